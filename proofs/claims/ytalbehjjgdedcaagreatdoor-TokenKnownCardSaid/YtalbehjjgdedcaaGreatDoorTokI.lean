/- token: Tokens. -/
import Derived.Test.YtalbehjjgdedcaaGreatDoorTokH
namespace Go.Proofs.YtalbehjjgdedcaaGreatDoor
open Go.RowKit Go.Lib
attribute [local go_sem ↓] Go.wp_at_zero Go.wp_at_succ

/-- a token, as it lies in cells -/
structure TokV where
  kind : Int
  name : ByteArray
  A : Option Addr
  m : Nat
  c : Nat
  text : ByteArray
  at_ : Int
def tokC : Cod TokV where
  size := 5
  cells x := [.int .u8 x.kind, .string x.name, .slice x.A x.m x.c, .string x.text, .int .i64 x.at_]
  len _ := rfl
  one x u hu := by simp only [List.mem_cons, List.not_mem_nil, or_false] at hu; rcases hu with rfl | rfl | rfl | rfl | rfl <;> rfl
  pos := by decide
theorem el_tok : El Tryz.prog 27 33 5 72 := El.mk (.agg #[.int .u8 0, .string ⟨#[]⟩, .slice none 0 0, .string ⟨#[]⟩, .int .i64 0]) Tryz.underlying27 (by kernel_rfl) rfl
theorem rd_tok (w : World) (o : Obj) (x : TokV) (E : TypeId) : Rd tokC ((w.alloc o).alloc (.cells #[.int .u8 x.kind, .string x.name, .slice x.A x.m x.c, .string x.text, .int .i64 x.at_] E)) (fun k => k = w.heap.size + 1) (.slice (some ⟨w.heap.size + 1, 0, none⟩) 1 1) [x] := by
  refine ⟨_, 1, rfl, Nat.le_refl _, by simp [maxLen], fun h => (by cases h), fun _ => ⟨w.heap.size + 1, 0, rfl, rfl, fun j u hu => ?_⟩⟩
  have hb := heap_alloc_new (w.alloc o) (.cells #[.int .u8 x.kind, .string x.name, .slice x.A x.m x.c, .string x.text, .int .i64 x.at_] E)
  simp only [World.size_alloc] at hb
  rw [cell_of_row _ _ _ _ _ _ hb]
  simpa [Cod.flat, tokC] using hu
/-- a token in memory: its cells, its attributes' block, what it is -/
structure TokX where
  t : TokV
  oa : Option Nat
  m : Tok
def TokOk (w : World) (x : TokX) : Prop :=
  x.t.kind = x.m.kind ∧ x.t.name = ⟨x.m.name.toArray⟩ ∧ x.t.text = ⟨x.m.text.toArray⟩ ∧ x.t.at_ = x.m.at_ ∧ x.t.m = x.m.attrs.length ∧ Own pairC w 38 (.slice x.t.A x.t.m x.t.c) x.oa (x.m.attrs.map toPair)
/-- tokens in memory, all of it new since a time -/
structure TokL (w : World) (base : Nat) (v : Value) (o : Option Nat) (X : List TokX) : Prop where
  own : Own tokC w 33 v o (X.map (·.t))
  ok : ∀ x ∈ X, TokOk w x
  new : ∀ k, o = some k → base ≤ k ∧ k < w.heap.size
  newa : ∀ x ∈ X, ∀ k, x.oa = some k → base ≤ k ∧ k < w.heap.size ∧ o ≠ some k
  apart : X.Pairwise (fun x y => ∀ k, x.oa = some k → y.oa ≠ some k)
theorem TokOk.fr {w w' : World} {x : TokX} {fp : Nat → Prop} (h : TokOk w x) (f : Fr fp w w') (hs : ∀ k, x.oa = some k → ¬ fp k) : TokOk w' x :=
  ⟨h.1, h.2.1, h.2.2.1, h.2.2.2.1, h.2.2.2.2.1, h.2.2.2.2.2.fr f hs⟩
theorem TokL.fr {w w' : World} {base : Nat} {v : Value} {o : Option Nat} {X : List TokX} {fp : Nat → Prop} (h : TokL w base v o X) (f : Fr fp w w') (hs : ∀ k, base ≤ k → k < w.heap.size → (o = some k ∨ ∃ x ∈ X, x.oa = some k) → ¬ fp k) : TokL w' base v o X where
  own := h.own.fr f (fun k hk => hs k (h.new k hk).1 (h.new k hk).2 (.inl hk))
  ok := fun x hx => (h.ok x hx).fr f (fun k hk => hs k (h.newa x hx k hk).1 (h.newa x hx k hk).2.1 (.inr ⟨x, hx, hk⟩))
  new := fun k hk => ⟨(h.new k hk).1, Nat.lt_of_lt_of_le (h.new k hk).2 f.size⟩
  newa := fun x hx k hk => ⟨(h.newa x hx k hk).1, Nat.lt_of_lt_of_le (h.newa x hx k hk).2.1 f.size, (h.newa x hx k hk).2.2⟩
  apart := h.apart
theorem TokL.nil_ (w : World) (base : Nat) : TokL w base (.slice none 0 0) none [] := ⟨Own.nil_ _ _ _ _, fun x hx => (by cases hx), fun k hk => (by cases hk), fun x hx => (by cases hx), .nil⟩
/-- one token more -/
theorem TokL.snoc {w w' : World} {base : Nat} {v v' : Value} {o o' : Option Nat} {X : List TokX} {x : TokX} (h : TokL w base v o X) (hx : TokOk w x) (hxn : ∀ k, x.oa = some k → base ≤ k ∧ k < w.heap.size ∧ o ≠ some k ∧ ∀ y ∈ X, y.oa ≠ some k)
    (hown : Own tokC w' 33 v' o' (X.map (·.t) ++ [x.t])) (f : Fr (fun k => o = some k) w w') (hn : ∀ k, o' = some k → o = some k ∨ (w.heap.size ≤ k ∧ k < w'.heap.size)) (hb : base ≤ w.heap.size) : TokL w' base v' o' (X ++ [x]) where
  own := by rw [List.map_append]; exact hown
  ok := by
    intro y hy
    rcases List.mem_append.1 hy with hy | hy
    · exact (h.ok y hy).fr f (fun k hk e => (h.newa y hy k hk).2.2 e)
    · rw [List.mem_singleton] at hy
      subst hy
      exact hx.fr f (fun k hk e => (hxn k hk).2.2.1 e)
  new := fun k hk => by
    rcases hn k hk with h1 | h1
    · exact ⟨(h.new k h1).1, Nat.lt_of_lt_of_le (h.new k h1).2 f.size⟩
    · exact ⟨by omega, h1.2⟩
  newa := by
    intro y hy k hk
    rcases List.mem_append.1 hy with hy | hy
    · have g := h.newa y hy k hk
      refine ⟨g.1, Nat.lt_of_lt_of_le g.2.1 f.size, fun e => ?_⟩
      rcases hn k e with h1 | h1
      · exact g.2.2 h1
      · omega
    · rw [List.mem_singleton] at hy
      subst hy
      have g := hxn k hk
      refine ⟨g.1, Nat.lt_of_lt_of_le g.2.1 f.size, fun e => ?_⟩
      rcases hn k e with h1 | h1
      · exact g.2.2.1 h1
      · omega
  apart := by
    rw [List.pairwise_append]
    refine ⟨h.apart, .cons (fun _ h => by cases h) .nil, fun y hy z hz k hk => ?_⟩
    rw [List.mem_singleton] at hz
    subst hz
    exact fun e => (hxn k e).2.2.2 y hy hk

/-- what Tokens answers -/
def TokensPost (s : ByteArray) (w : World) (e : Ending) (w' : World) : Prop :=
  ∃ (A : Option Addr) (c : Nat) (o : Option Nat) (X : List TokX), e = .returned (.tuple #[.slice A X.length c, .int .i64 (tokR s.data.toList).2.1, .int .i64 (tokR s.data.toList).2.2]) ∧
    TokL w' w.heap.size (.slice A X.length c) o X ∧ X.map (·.m) = (tokR s.data.toList).1 ∧ Fr (fun _ => False) w w'
theorem TokensPost.err {s : ByteArray} {w w' : World} {p : Nat} {er : Int} (h : tokR s.data.toList = ([], p, er)) (f : Fr (fun _ => False) w w') : TokensPost s w (.returned (.tuple #[.slice none 0 0, .int .i64 p, .int .i64 er])) w' :=
  ⟨none, 0, none, [], by rw [h]; rfl, TokL.nil_ _ _, by rw [h]; rfl, f⟩
/-- where Tokens' round stands -/
structure TokenJ (s : ByteArray) (b : Nat) (R : List Tok × Nat × Int) (w w' : World) (r : ByteArray) (v : Value) (o : Option Nat) (X : List TokX) : Prop where
  cut : CutAt w' b s.size r
  tl : TokL w' w.heap.size v o X
  res : tokS r.data.toList (s.size - r.size) (X.map (·.m)) = R
  fr : Fr (fun _ => False) w w'
  nb : w.heap.size ≤ b
  nbo : o ≠ some b
  nba : ∀ x ∈ X, x.oa ≠ some b
  len : X.length ≤ s.size - r.size

theorem token_err (b n : Nat) (r : ByteArray) (w : World) (h : CutAt w b n r) (hst : St w) (hfree : Free b) (hn : n ≤ 70000) (h0 : 0 < r.size) {off : Nat} {er : Int} (hk : stepK r.data.toList = .inr (off, er)) :
    Calls Tryz.prog 40 #[.pointer (some ⟨b, 0, none⟩)] w fun e w' => ∃ (k : Int) (nm tx : ByteArray) (A : Option Addr) (m c : Nat) (i : Int), e = .returned (.tuple #[.agg #[.int .u8 k, .string nm, .slice A m c, .string tx, .int .i64 i], .int .i64 ((n - r.data.toList.length + off : Nat) : Int), .int .i64 er]) ∧ Fr (fun k => k = b) w w' :=
  (token_any b n r w h hst hfree hn h0).mono fun e w' ⟨hf, hm⟩ => by
    rw [hk] at hm
    obtain ⟨k, nm, tx, A, m, c, i, r', h1, h2⟩ := hm
    exact ⟨k, nm, tx, A, m, c, i, h1, hf⟩
theorem token_ok (b n : Nat) (r : ByteArray) (w : World) (h : CutAt w b n r) (hst : St w) (hfree : Free b) (hn : n ≤ 70000) (h0 : 0 < r.size) {kd : Nat} {nm : List UInt8} {vs : List (List UInt8 × List UInt8)} {tx : List UInt8} {k : Nat} (hk : stepK r.data.toList = .inl (kd, nm, vs, tx, k)) :
    Calls Tryz.prog 40 #[.pointer (some ⟨b, 0, none⟩)] w fun e w' => ∃ (A : Option Addr) (c : Nat) (oa : Option Nat) (i2 : Int), e = .returned (.tuple #[.agg #[.int .u8 kd, .string ⟨nm.toArray⟩, .slice A vs.length c, .string ⟨tx.toArray⟩, .int .i64 ((n - r.data.toList.length : Nat) : Int)], .int .i64 i2, .int .i64 0]) ∧
      CutAt w' b n ⟨(r.data.toList.drop k).toArray⟩ ∧ Own pairC w' 38 (.slice A vs.length c) oa (vs.map toPair) ∧ (∀ k, oa = some k → w.heap.size ≤ k ∧ k < w'.heap.size) ∧ Fr (fun k => k = b) w w' :=
  (token_any b n r w h hst hfree hn h0).mono fun e w' ⟨hf, hm⟩ => by
    rw [hk] at hm
    obtain ⟨A, c, oa, i2, h1, h2, h3, h4⟩ := hm
    exact ⟨A, c, oa, i2, h1, h2, h3, h4, hf⟩

set_option maxRecDepth 100000 in
set_option maxHeartbeats 8000000 in
theorem tokens_any (s : ByteArray) (w : World) (hst : St w) : Calls Tryz.prog 13 #[.string s] w (TokensPost s w) := by
  have hl : s.data.toList.length = s.size := rfl
  by_cases hbig : 65536 < s.size
  · have hr : tokR s.data.toList = ([], 0, 3) := by unfold tokR; rw [if_pos (by omega)]
    have HP := hide (fun (W : World) (f : Fr (fun _ => False) w W) => TokensPost.err hr f)
    have hi : (65536 : Int) < s.size := by omega
    clear hr hl hbig hst
    go_enter Tryz.func13, Tryz.ntmps13
    go_wp2
    go_returns
    exact HP.out _ (Fr.refl _ _)
  · have hi : ¬ (65536 : Int) < s.size := by omega
    have hi2 : (s.size : Int) ≤ 65536 := by omega
    have HV := valid_any s w hst.ub (by omega)
    by_cases hv : (validR s.data.toList).2 = 0
    · obtain ⟨R, hR⟩ : ∃ R, tokR s.data.toList = R := ⟨_, rfl⟩
      have hR2 : tokS s.data.toList 0 [] = R := by
        rw [← hR]; unfold tokR; rw [if_neg (by omega), if_neg (by simpa using hv)]
      rw [hv] at HV
      have HV := hide HV
      generalize (validR s.data.toList).1 = vk at *
      have HPE := hide (fun (W : World) (p : Nat) (er : Int) (h : R = ([], p, er)) (f : Fr (fun _ => False) w W) => show TokensPost s w (.returned (.tuple #[.slice none 0 0, .int .i64 p, .int .i64 er])) W from TokensPost.err (by rw [hR, h]) f)
      have HPO := hide (fun (W : World) (A : Option Addr) (c : Nat) (o : Option Nat) (X : List TokX) (h : R = (X.map (·.m), 0, 0)) (tl : TokL W w.heap.size (.slice A X.length c) o X) (f : Fr (fun _ => False) w W) => show TokensPost s w (.returned (.tuple #[.slice A X.length c, .int .i64 0, .int .i64 0])) W from
        ⟨A, c, o, X, by rw [hR, h]; rfl, tl, by rw [hR, h], f⟩)
      have HST := hide (fun (W : World) (f : Fr (fun _ => False) w W) => hst.same f)
      have HFREE := hide (fun (b : Nat) (hb : w.heap.size ≤ b) => hst.free hb)
      have HR2 := hide hR2
      clear hR hR2 hv hst hbig hl
      go_enter Tryz.func13, Tryz.ntmps13
      go_wp2_with (go_at_call 38; refine HV.out.mono ?_; rintro e w1 ⟨rfl, f1⟩; have hw1 := f1.size)
      have HF1 := hide f1
      clear f1
      go_loopw [7] (fun v wr => ∃ (r : ByteArray) (A : Option Addr) (c : Nat) (o : Option Nat) (X : List TokX), v = .slice A X.length c ∧ r.size ≤ s.size ∧ Hid (TokenJ s w1.heap.size R w wr r (.slice A X.length c) o X)) (fun _ wr => leftOf w1.heap.size wr)
      case atStart => exact ⟨s, none, 0, none, [], rfl, Nat.le_refl _, hide ⟨⟨heap_alloc_new w1 _, Nat.le_refl _, by omega⟩, TokL.nil_ _ _, by rw [Nat.sub_self]; exact HR2.out, Fr.alloc HF1.out _, hw1, by simp, fun x hx => (by cases hx), by simp⟩⟩
      case round =>
        obtain ⟨r, A, c, o, X, rfl, hrs, hJ⟩ := hrel
        have k1 := hJ.out.cut.c1
        have HLEN := hide (show X.length ≤ 65536 by have := hJ.out.len; omega)
        by_cases h0 : 0 < r.size
        · obtain ⟨iE, iE2⟩ := ne_nil_ h0
          have hst1 := HST.out wr hJ.out.fr
          have hfree1 := HFREE.out w1.heap.size hw1
          have hrl : r.data.toList.length = r.size := rfl
          have hrn : r.data.toList ≠ [] := fun e => by rw [e] at hrl; simp at hrl; omega
          have hrm := remark_any w1.heap.size s.size r wr hJ.out.cut hst1 hfree1
          by_cases hre : 0 < remarkP r.data.toList
          · have hrle := remarkP_le r.data.toList
            obtain ⟨r2, hr2⟩ : ∃ r2 : ByteArray, (⟨(r.data.toList.drop (remarkP r.data.toList)).toArray⟩ : ByteArray) = r2 := ⟨_, rfl⟩
            have h2l : r2.data.toList = r.data.toList.drop (remarkP r.data.toList) := by rw [← hr2]
            have h2z : r2.size = r.size - remarkP r.data.toList := by rw [← hr2, mk_size, List.length_drop, hrl]
            rw [decide_eq_true hre, hr2] at hrm
            have HRM := hide hrm
            have hres := hJ.out.res
            rw [tokS_remark hre, ← h2l, show s.size - r.size + remarkP r.data.toList = s.size - r2.size by omega] at hres
            have HRES := hide hres
            have HZ := hide (show r2.size < r.size ∧ r2.size ≤ s.size ∧ s.size - r.size ≤ s.size - r2.size by omega)
            clear hrm hres h2z h2l hr2 hrle hre hrn hrl
            go_wp2_with (go_at_call 39; refine HRM.out.mono ?_; rintro e w2 ⟨rfl, c2, f2⟩)
            go_roundw
            case rel =>
              exact ⟨r2, A, c, o, X, rfl, HZ.out.2.1, hide ⟨c2, hJ.out.tl.fr f2 (fun k h1 h2 h3 e => by
                subst e
                rcases h3 with h3 | ⟨x, hx, h3⟩
                · exact hJ.out.nbo h3
                · exact hJ.out.nba x hx h3), HRES.out, (hJ.out.fr.then_ f2 (fun k h1 h2 => by omega)), hw1, hJ.out.nbo, hJ.out.nba, Nat.le_trans hJ.out.len HZ.out.2.2⟩⟩
            case measure =>
              show leftOf w1.heap.size w2 < leftOf w1.heap.size wr
              rw [leftOf_eq c2, leftOf_eq hJ.out.cut]
              exact HZ.out.1
          · have hre0 : remarkP r.data.toList = 0 := by omega
            rw [hre0, List.drop_zero, mk_self] at hrm
            have HRM := hide hrm
            have hres := hJ.out.res
            rw [tokS_step hrn hre0] at hres
            cases hk : stepK r.data.toList with
            | inr y =>
              obtain ⟨off, er⟩ := y
              rw [hk] at hres
              have HTK := hide (fun (W : World) (hc : CutAt W w1.heap.size s.size r) (hs : St W) => token_err w1.heap.size s.size r W hc hs hfree1 (by omega) h0 hk)
              have her := (stepK_err hk).1
              have erb : (er != 0) = true := by simpa using her
              have HRES := hide hres
              have HN := hide hrl
              clear hrm hres hk her hre hre0 hrn hrl
              go_wp2_with (first
                | (go_at_call 39; refine HRM.out.mono ?_; rintro e w2 ⟨rfl, c2, f2⟩; have F2 := hide (hJ.out.fr.then_ f2 (fun k h1 h2 => by omega)))
                | (go_at_call 40; refine (HTK.out _ c2 (HST.out _ F2.out)).mono ?_; rintro e w3 ⟨tk, tn, tt, tA, tm, tc, ti, rfl, f3⟩; have F3 := hide (F2.out.then_ f3 (fun k h1 h2 => by omega))))
              go_returns
              have hh := HPE.out _ (s.size - r.size + off) er HRES.out.symm (Fr.alloc F3.out (.cells #[.int .u8 tk, .string tn, .slice tA tm tc, .string tt, .int .i64 ti] 33))
              rw [← HN.out] at hh
              exact hh
            | inl y =>
              obtain ⟨kd, nm, vs, tx, k⟩ := y
              rw [hk] at hres
              simp only at hres
              obtain ⟨kp1, kp2, kp3⟩ := stepK_ok hrn hk
              rw [hrl] at kp2
              obtain ⟨r4, hr4⟩ : ∃ r4 : ByteArray, (⟨(r.data.toList.drop k).toArray⟩ : ByteArray) = r4 := ⟨_, rfl⟩
              have h4l : r4.data.toList = r.data.toList.drop k := by rw [← hr4]
              have h4z : r4.size = r.size - k := by rw [← hr4, mk_size, List.length_drop, hrl]
              obtain ⟨xn, hxn⟩ : ∃ xn : ByteArray, (⟨nm.toArray⟩ : ByteArray) = xn := ⟨_, rfl⟩
              obtain ⟨xt, hxt⟩ : ∃ xt : ByteArray, (⟨tx.toArray⟩ : ByteArray) = xt := ⟨_, rfl⟩
              have htk := fun (W : World) (hc : CutAt W w1.heap.size s.size r) (hs : St W) => token_ok w1.heap.size s.size r W hc hs hfree1 (by omega) h0 hk
              rw [hr4, hxn, hxt, hrl] at htk
              obtain ⟨p, hp⟩ : ∃ p, s.size - r.size = p := ⟨_, rfl⟩
              rw [hp] at htk hres
              have HTK := hide htk
              have HRES := hide (show tokS r4.data.toList (s.size - r4.size) ((X.map (·.m)) ++ [⟨kd, nm, vs, tx, p⟩]) = R by rw [h4l, show s.size - r4.size = p + k by omega]; exact hres)
              have HXOK := hide (fun (W : World) (A3 : Option Addr) (c3 : Nat) (oa : Option Nat) (own : Own pairC W 38 (.slice A3 vs.length c3) oa (vs.map toPair)) => show TokOk W ⟨⟨kd, xn, A3, vs.length, c3, xt, p⟩, oa, ⟨kd, nm, vs, tx, p⟩⟩ from ⟨rfl, hxn.symm, hxt.symm, rfl, rfl, own⟩)
              have HZ := hide (show r4.size < r.size ∧ r4.size ≤ s.size ∧ X.length + 1 ≤ s.size - r4.size by have := hJ.out.len; omega)
              clear hrm hres hk hre hre0 hrn hrl htk kp1 kp2 kp3 hr4 h4l h4z hxn hxt hp
              go_wp2_with (first
                | (go_at_call 39; refine HRM.out.mono ?_; rintro e w2 ⟨rfl, c2, f2⟩; have F2 := hide (hJ.out.fr.then_ f2 (fun k h1 h2 => by omega)))
                | (go_at_call 40; refine (HTK.out _ c2 (HST.out _ F2.out)).mono ?_; rintro e w3 ⟨A3, c3, oa, i2, rfl, cc3, own3, new3, f3⟩; have F3 := hide (F2.out.then_ f3 (fun k h1 h2 => by omega)); have TL3 := hide (hJ.out.tl.fr (f2.trans f3) (fun k h1 h2 h3 e => by
                    subst e
                    rcases h3 with h3 | ⟨x, hx, h3⟩
                    · exact hJ.out.nbo h3
                    · exact hJ.out.nba x hx h3)))
                | (at_builtin; (refine wpList_append_Own rfl rfl el_tok (by rfl) (by rfl) (TL3.out.own.fr (Fr.alloc (Fr.alloc (Fr.refl (fun _ => False) w3) _) _) (fun _ _ h => h)) (rd_tok w3 _ ⟨kd, xn, A3, vs.length, c3, xt, p⟩ _) (by have := HLEN.out; simp; omega) ?_); intro B1 d1 w4 o4 m4 g4 n4))
              have h2 : Fr (fun _ => False) w3 ((w3.alloc (.cells #[.int .u8 kd, .string xn, .slice A3 vs.length c3, .string xt, .int .i64 p] 33)).alloc (.cells #[.int .u8 kd, .string xn, .slice A3 vs.length c3, .string xt, .int .i64 p] 33)) := Fr.alloc (Fr.alloc (Fr.refl _ _) _) _
              have hsw := hJ.out.fr.size
              have hs2 := f2.size
              have hs3 := f3.size
              have hcl := hJ.out.cut.lt
              have hown4 : Own tokC w4 33 (.slice B1 (X.length + 1) d1) o4 (X.map (·.t) ++ [⟨kd, xn, A3, vs.length, c3, xt, p⟩]) := by simpa using m4
              have TL4 := hide (TL3.out.fr h2 (fun _ _ _ _ h => h))
              have OW := hide (HXOK.out _ A3 c3 oa (own3.fr h2 (fun _ _ h => h)))
              have hs4 := h2.size
              have TL5 := hide (TL4.out.snoc (v' := .slice B1 (X.length + 1) d1) OW.out (fun k hk => by
                have hn := new3 k hk
                refine ⟨by omega, by omega, fun e => ?_, fun y hy e => ?_⟩
                · have := (hJ.out.tl.new k e).2; omega
                · have := (hJ.out.tl.newa y hy k e).2.1; omega) hown4 g4 n4 (by omega))
              have hbo : ¬ o = some w1.heap.size := hJ.out.nbo
              have c4 := (cc3.same h2).fr g4 hbo
              go_roundw
              case rel =>
                refine ⟨r4, B1, d1, o4, X ++ [⟨⟨kd, xn, A3, vs.length, c3, xt, p⟩, oa, ⟨kd, nm, vs, tx, p⟩⟩], by simp, HZ.out.2.1, hide ⟨c4, by simpa using TL5.out, by rw [List.map_append]; exact HRES.out, (F3.out.trans h2).then_ g4 (fun k h1 h2 => by have := (hJ.out.tl.new k h2).1; omega), hw1, fun e => ?_, fun x hx e => ?_, by rw [List.length_append]; exact HZ.out.2.2⟩⟩
                · rcases n4 _ e with h | h
                  · exact hbo h
                  · omega
                · rcases List.mem_append.1 hx with hx | hx
                  · exact hJ.out.nba x hx e
                  · rw [List.mem_singleton] at hx
                    subst hx
                    have := (new3 _ e).1
                    omega
              case measure =>
                show leftOf w1.heap.size w4 < leftOf w1.heap.size wr
                rw [leftOf_eq c4, leftOf_eq hJ.out.cut]
                exact HZ.out.1
        · have hre : r = ⟨#[]⟩ := by
            cases r with
            | mk d => congr 1; exact Array.toList_inj.1 (List.eq_nil_of_length_eq_zero (by show (⟨d⟩ : ByteArray).size = 0; omega))
          subst hre
          have hres := hJ.out.res
          have HRES := hide (show R = (X.map (·.m), 0, 0) from hres.symm)
          clear hres
          go_wp2_with fail
          go_returns
          exact HPO.out _ A c o X HRES.out hJ.out.tl hJ.out.fr
    · have hr : tokR s.data.toList = ([], (validR s.data.toList).1, (validR s.data.toList).2) := by unfold tokR; rw [if_neg (by omega), if_pos hv]
      have HP := hide (fun (W : World) (f : Fr (fun _ => False) w W) => TokensPost.err hr f)
      have hvb : ((validR s.data.toList).2 != 0) = true := by simpa using hv
      have HV := hide HV
      clear hr hl hbig hst hv
      generalize (validR s.data.toList).1 = vk at *
      generalize (validR s.data.toList).2 = ve at *
      go_enter Tryz.func13, Tryz.ntmps13
      go_wp2_with (go_at_call 38; refine HV.out.mono ?_; rintro e w1 ⟨rfl, f1⟩)
      go_returns
      exact HP.out _ f1
end Go.Proofs.YtalbehjjgdedcaaGreatDoor
