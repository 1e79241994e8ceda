/- Abstract walks: how the simplifier goes through code. -/
import Derived.Test.YtncecbgpkoihpaaGreatDoorAwTwo
namespace Go.Proofs.YtncecbgpkoihpaaGreatDoor.Aw
open Go.RowKit
section
variable {P : Program} {sp : Spec} {fl : List (Nat × Fls)} {Q : QT} {env env' : List AV} {rows rows' : List Row}
def seqQ (P : Program) (sp : Spec) (fl : List (Nat × Fls)) (y : Code) (Q : QT) : QT := fun e env rows => match e with
 | .normal => aw P sp fl y Q env rows
 | e => Q e env rows
def z9g (id : Nat) (Q : QT) : QT := fun e env rows => match e with
 | .exit id' => if id' = id then Q .normal env rows else Q (.exit id') env rows
 | e => Q e env rows
def Dr (ms : Fls) (draw : Bool) (ops : Array Oper) : Prop := draw = true → zav ms ops = true
theorem zf0 {ms : Fls} {draw : Bool} {ops : Array Oper} (h : zav ms ops = true) : Dr ms draw ops := fun _ => h
theorem znq {ms : Fls} {ops : Array Oper} : Dr ms false ops = True := by unfold Dr; simp
theorem zf1 {y : Code} : seqQ P sp fl y Q .normal env rows = aw P sp fl y Q env rows := by simp only [seqQ]
theorem znr {y : Code} : seqQ P sp fl y Q .ret env rows = Q .ret env rows := by simp only [seqQ]
theorem zk0 {y : Code} {id : Nat} : seqQ P sp fl y Q (.exit id) env rows = Q (.exit id) env rows := by simp only [seqQ]
theorem zbs {id : Nat} : z9g id Q .normal env rows = Q .normal env rows := by simp only [z9g]
theorem zic {id : Nat} : z9g id Q .ret env rows = Q .ret env rows := by simp only [z9g]
theorem zf2 {id id' : Nat} : z9g id Q (.exit id') env rows = if id' = id then Q .normal env rows else Q (.exit id') env rows := by simp only [z9g]
theorem zns : undef = .tuple #[] := by unfold undef; exact Eq.refl _
theorem zta {b : Bool} : (b == true) = b := by cases b <;> decide
theorem ztb {b : Bool} : (b == false) = !b := by cases b <;> decide
theorem zqr : aw P sp fl .skip Q env rows = Q .normal env rows := by rw [aw]
theorem zk1 {id : Nat} {ops : Array Oper} {draw : Bool} : aw P sp [] (.region id ops draw) Q env rows = (Dr [] draw ops ∧ opsW P sp ops ops.toList env rows (Q .normal)) := by
 rw [aw, Dr]
 simp only [flOf, ite_self, opsS, List.drop_zero]
theorem zid {id : Nat} {ops : Array Oper} {x : Nat × Fls} : aw P sp (x :: fl) (.region id ops false) Q env rows = opsW P sp ops ops.toList env rows (Q .normal) := by
 rw [aw]
 simp [opsS]
theorem zie {id : Nat} {ops : Array Oper} {x : Nat × Fls} : aw P sp (x :: fl) (.region id ops true) Q env rows = (Dr (flOf (x :: fl) id) true ops ∧ opsS P sp ops (flOf (x :: fl) id) 0 env rows (Q .normal)) := by
 rw [aw, Dr]
 simp only [if_true]
theorem znt {id : Nat} : flOf [] id = [] := by rw [flOf]
theorem zk2 {i id : Nat} {ms : Fls} {l : List (Nat × Fls)} : flOf ((i, ms) :: l) id = if i = id then ms else flOf l id := by rw [flOf]
theorem znu {ops : Array Oper} {b : Nat} {K : List AV → List Row → Prop} : opsS P sp ops [] b env rows K = opsW P sp ops (ops.toList.drop b) env rows K := by rw [opsS]
def rckQ (P : Program) (sp : Spec) (ops : Array Oper) (ks : List Nat) (ms : Fls) (m : Nat) (K : List AV → List Row → Prop) : List AV → List Row → Prop := fun env rows => rck P sp ops env rows ks ∧ opsS P sp ops ms m env rows K
theorem zk3 {ops : Array Oper} {b m : Nat} {ks : List Nat} {ms : Fls} {K : List AV → List Row → Prop} : opsS P sp ops ((m, ks) :: ms) b env rows K = opsW P sp ops ((ops.toList.drop b).take (m + 1 - b)) env rows (rckQ P sp ops ks ms (m + 1) K) := by rw [opsS]; rfl
theorem zqs {ops : Array Oper} {ks : List Nat} {ms : Fls} {m : Nat} {K : List AV → List Row → Prop} : rckQ P sp ops ks ms m K env rows = (rck P sp ops env rows ks ∧ opsS P sp ops ms m env rows K) := by rw [rckQ]
theorem zqt {ops : Array Oper} : rck P sp ops env rows [] = True := by rw [rck]
theorem znv {ops : Array Oper} {k : Nat} {ks : List Nat} : rck P sp ops env rows (k :: ks) = ((match ops[k]? with
 | some o => (match o.dst with
   | some t => valW P sp (z03 rows) (evA (envE env)) o.op (fun v => v = envE env t)
   | none => False)
 | none => False) ∧ rck P sp ops env rows ks) := by rw [rck]; rfl
theorem zsg {x y : Code} : aw P sp fl (.seq x y) Q env rows = aw P sp fl x (seqQ P sp fl y Q) env rows := by rw [aw]; rfl
theorem zk4 {c : Operand} {x y : Code} : aw P sp fl (.cond c x y) Q env rows = (match evA (envE env) c with
 | .sc (.bool b) => (b = true → aw P sp fl x Q env rows) ∧ (b = false → aw P sp fl y Q env rows)
 | _ => False) := by rw [aw]; rfl
theorem znw {id : Nat} {c : Code} : aw P sp fl (.block id c) Q env rows = aw P sp fl c (z9g id Q) env rows := by rw [aw]; rfl
theorem zqu {id : Nat} : aw P sp fl (.exit id) Q env rows = Q (.exit id) env rows := by rw [aw]
theorem znx {id : Nat} : aw P sp fl (.label id) Q env rows = Q .normal env rows := by rw [aw]
theorem zsh : aw P sp fl .ret Q env rows = Q .ret env rows := by rw [aw]
theorem zny {ops : Array Oper} {K : List AV → List Row → Prop} : opsW P sp ops [] env rows K = K env rows := by rw [opsW]
theorem zif {ops : Array Oper} {d : Option Tmp} {op : Op} {ty : TypeId} {pos : String} {af : Array Edge} {l : List Oper} {K : List AV → List Row → Prop} : opsW P sp ops (⟨d, op, ty, pos, af, none⟩ :: l) env rows K = opW P sp env rows ⟨d, op, ty, pos, af, none⟩ fun v rows' => opsW P sp ops l (putE env d v) rows' K := by rw [opsW]
def z0w (ops : Array Oper) (env : List AV) (j : Nat) (want : Bool) : Option Bool :=
 match (ops[j]?).bind (·.dst) with
 | some t => match envE env t with
   | .sc (.bool b) => some (b == want)
   | .sc _ => some false
   | _ => none
 | none => none
theorem zqv {ops : Array Oper} {d : Option Tmp} {op : Op} {ty : TypeId} {pos : String} {af : Array Edge} {j : Nat} {want : Bool} {l : List Oper} {K : List AV → List Row → Prop} (h : z0w ops env j want = some true) : opsW P sp ops (⟨d, op, ty, pos, af, some (j, want)⟩ :: l) env rows K =
 opW P sp env rows ⟨d, op, ty, pos, af, some (j, want)⟩ fun v rows' => opsW P sp ops l (putE env d v) rows' K := by
 unfold z0w at h
 rw [opsW]
 simp only
 split at h <;> try (cases h; done)
 rename_i t ht
 rw [ht]
 simp only
 split at h <;> try (cases h; done)
 rename_i b hb
 rw [hb]
 simp only [Option.some.injEq, beq_iff_eq] at h
 simp [h]
theorem zqw {ops : Array Oper} {d : Option Tmp} {op : Op} {ty : TypeId} {pos : String} {af : Array Edge} {j : Nat} {want : Bool} {l : List Oper} {K : List AV → List Row → Prop} (h : z0w ops env j want = some false) : opsW P sp ops (⟨d, op, ty, pos, af, some (j, want)⟩ :: l) env rows K =
 opsW P sp ops l (putE env d (.sc undef)) rows K := by
 unfold z0w at h
 rw [opsW]
 simp only
 split at h <;> try (cases h; done)
 rename_i t ht
 rw [ht]
 simp only
 split at h <;> try (cases h; done)
 · rename_i b hb
   rw [hb]
   simp only [Option.some.injEq, beq_eq_false_iff_ne] at h
   simp [h]
 · rename_i u hn hu
   rw [hu]
   cases u with
   | bool c => exact absurd rfl (hn c)
   | _ => rfl
theorem ztc {c : Operand} {x y : Code} (h : evA (envE env) c = .sc (.bool true)) : aw P sp fl (.cond c x y) Q env rows = aw P sp fl x Q env rows := by
 rw [zk4, h]
 simp
theorem ztd {c : Operand} {x y : Code} (h : evA (envE env) c = .sc (.bool false)) : aw P sp fl (.cond c x y) Q env rows = aw P sp fl y Q env rows := by
 rw [zk4, h]
 simp
theorem znz {l : List ResultVar} {r : AV} : retV P l r .ret env rows = resW P env rows l fun x => frzA (z03 rows) 3 x = some r := by simp only [retV]
theorem zf3 {l : List ResultVar} {r : AV} : retV P l r .normal env rows = resW P env rows l fun x => frzA (z03 rows) 3 x = some r := by simp only [retV]
theorem zk5 (H : Heap) (x : AV) (K : List AV → Prop) : placeW H x K =
 (match x with
 | .ptr K' off => match H K' with
   | .var cs _ => K (cs.drop off)
   | _ => False
 | .rp l => K l
 | .lp K' n i j => match H K' with
   | .lst _ l _ => l.length = n ∧ i < l.length ∧ K ((at_ l i).drop j)
   | _ => False
 | _ => False) := by unfold placeW; rfl
theorem zo0 (P : Program) (t : TypeId) (cs : List AV) (K : AV → Prop) : z5b P t cs K =
 (match z1n P t with
 | some (some s) => s ≤ cs.length ∧ K (.agg (cs.take s))
 | some none => match cs with
   | c :: _ => K c
   | [] => False
 | none => False) := by unfold z5b; rfl
theorem zbt (P : Program) (H : Heap) (s : TypeId) (f : Nat) (x : AV) (K : AV → Prop) : z0s P H s f x K =
 (match z02 P s f with
 | none => False
 | some fo => match x with
   | .ptr K' o => K (.ptr K' (o + fo))
   | .rp l => K (.rp (l.drop fo))
   | .lp K' n i j => match H K' with
     | .lst _ l _ => l.length = n ∧ K (.lp K' n i (j + fo))
     | _ => False
   | _ => False) := by unfold z0s; rfl
theorem zqx (i : Int) (len : Nat) (K : Nat → Prop) : idxW i len K =
 (0 ≤ i ∧ i < len ∧ K i.toNat) := by unfold idxW; rfl
theorem zbu (P : Program) (H : Heap) (t : TypeId) (x ix : AV) (K : AV → Prop) : z0t P H t x ix K =
 (match ix with
 | .sc (.int _ i) => match z0i P t with
   | some (none, s) => match x with
     | .ro l => idxW i l.length fun q => (at_ l q).length = s ∧ K (.rp (at_ l q))
     | .sl K' n => match H K' with
       | .lst sz l _ => l.length = n ∧ sz = s ∧ idxW i n fun q => K (.lp K' n q 0)
       | .fro l => l.length = n ∧ idxW i n fun q => (at_ l q).length = s ∧ K (.rp (at_ l q))
       | _ => False
     | _ => False
   | some (some len, s) => match x with
     | .ptr K' o => idxW i len fun q => K (.ptr K' (o + q * s))
     | .rp l => idxW i len fun q => K (.rp (l.drop (q * s)))
     | _ => False
   | none => False
 | _ => False) := by unfold z0t; rfl
theorem zqy (op : BinOp) (k : IntKind) (a b : Int) (K : AV → Prop) : intW op k a b K =
 (match op with
 | .add => K (.sc (.int k (k.wrap (a + b))))
 | .sub => K (.sc (.int k (k.wrap (a - b))))
 | .mul => K (.sc (.int k (k.wrap (a * b))))
 | .quo => b ≠ 0 ∧ K (.sc (.int k (k.wrap (a.tdiv b))))
 | .rem => b ≠ 0 ∧ K (.sc (.int k (a.tmod b)))
 | .eql => K (.sc (.bool (a == b)))
 | .neq => K (.sc (.bool (a != b)))
 | .lss => K (.sc (.bool (decide (a < b))))
 | .leq => K (.sc (.bool (decide (a ≤ b))))
 | .gtr => K (.sc (.bool (decide (a > b))))
 | .geq => K (.sc (.bool (decide (a ≥ b))))
 | _ => False) := by unfold intW; rfl
theorem zqz (op : BinOp) (a b : ByteArray) (K : AV → Prop) : strW op a b K =
 (match op with
 | .add => a.size + b.size ≤ 9223372036854775807 ∧ K (.sc (.string (a ++ b)))
 | .eql => K (.sc (.bool (decide (a = b))))
 | .neq => K (.sc (.bool (!decide (a = b))))
 | .lss => K (.sc (.bool (Op.bytesLess a.toList b.toList)))
 | .leq => K (.sc (.bool (Op.bytesLess a.toList b.toList || decide (a = b))))
 | .gtr => K (.sc (.bool (!(Op.bytesLess a.toList b.toList || decide (a = b)))))
 | .geq => K (.sc (.bool (!Op.bytesLess a.toList b.toList)))
 | _ => False) := by unfold strW; rfl
theorem zr0 (sp : Spec) (op : BinOp) (t : TypeId) (l m : List AV) (K : AV → Prop) : eqsW sp op t l m K =
 (match z1i l, z1i m with
 | some a, some b => match sp.eqs t a b with
   | some r => match op with
     | .eql => K (.sc (.bool r))
     | .neq => K (.sc (.bool (!r)))
     | _ => False
   | none => False
 | _, _ => False) := by unfold eqsW; rfl
theorem zr1 (P : Program) (sp : Spec) (op : BinOp) (t : TypeId) (x y : AV) (K : AV → Prop) : binW P sp op t x y K =
 (match x with
 | .sc (.int k a) => match y with
   | .sc (.int k' b) => k = k' ∧ intW op k a b K
   | _ => False
 | .sc (.string a) => match y with
   | .sc (.string b) => strW op a b K
   | _ => False
 | .sc (.bool a) => match y with
   | .sc (.bool b) => zcv P t = true ∧ match op with
     | .eql => K (.sc (.bool (a == b)))
     | .neq => K (.sc (.bool (!(a == b))))
     | _ => False
   | _ => False
 | .agg l => match y with
   | .agg m => eqsW sp op t l m K
   | _ => False
 | _ => False) := by unfold binW; rfl
theorem zsi (op : UnOp) (x : AV) (K : AV → Prop) : unW op x K =
 (match op with
 | .not => match x with
   | .sc (.bool b) => K (.sc (.bool (!b)))
   | _ => False
 | .neg => match x with
   | .sc (.int k n) => K (.sc (.int k (k.wrap (0 - n))))
   | _ => False
 | _ => False) := by unfold unW; rfl
theorem zo1 (P : Program) (src dst : TypeId) (x : AV) (K : AV → Prop) : zbo P src dst x K =
 ((P.underlying src).isSome = true ∧ match x with
 | .sc (.int _ n) => match z99 P dst with
   | some k => K (.sc (.int k (k.wrap n)))
   | none => False
 | .sc (.string s) => z3v P dst = true ∧ K (.sc (.string s))
 | _ => False) := by unfold zbo; rfl
theorem zk6 (P : Program) (t : TypeId) (f : Nat) (x : AV) (K : AV → Prop) : z6r P t f x K =
 (match x with
 | .agg l => match zbk P t f with
   | some (off, ft) => z5b P ft (l.drop off) K
   | none => False
 | _ => False) := by unfold z6r; rfl
theorem zk7 (P : Program) (t : TypeId) (x ix : AV) (K : AV → Prop) : z6s P t x ix K =
 (match ix with
 | .sc (.int _ i) => match x with
   | .sc (.string s) => z3v P t = true ∧ idxW i s.size fun q => K (.sc (.int .u8 (byteAt s q)))
   | .agg l => match zbl P t with
     | some (len, et, sz) => idxW i len fun q => z5b P et (l.drop (q * sz)) K
     | none => False
   | _ => False
 | _ => False) := by unfold z6s; rfl
theorem zk8 (d : Nat) (x : Option AV) (K : Int → Prop) : z3a d x K =
 (match x with
 | none => K d
 | some (.sc (.int _ i)) => K i
 | _ => False) := by unfold z3a; rfl
theorem zk9 (P : Program) (t : TypeId) (x : AV) (lo hi : Option AV) (K : AV → Prop) : z6t P t x lo hi K =
 (match x with
 | .sc (.string s) => z3v P t = true ∧ z3a s.size hi fun h => z3a 0 lo fun l => 0 ≤ l ∧ l ≤ h ∧ h ≤ s.size ∧ K (.sc (.string (s.extract l.toNat h.toNat)))
 | .ro es => match z0i P t with
   | some (none, sz) => z3a es.length hi fun h => z3a 0 lo fun l => 0 ≤ l ∧ l ≤ h ∧ h ≤ es.length ∧ (∀ e ∈ es, e.length = sz) ∧ K (.ro ((es.take h.toNat).drop l.toNat))
   | _ => False
 | _ => False) := by unfold z6t; rfl
theorem zr2 (P : Program) (H : Heap) (t : TypeId) (x : AV) (K : AV → Prop) : lenW P H t x K =
 (match x with
 | .sc (.string s) => z3v P t = true ∧ K (.sc (.int .i64 s.size))
 | .ro l => match z0i P t with
   | some (none, _) => K (.sc (.int .i64 l.length))
   | _ => False
 | .sl K' n => match z0i P t with
   | some (none, _) => (H K').len = some n ∧ K (.sc (.int .i64 n))
   | _ => False
 | .sc (.slice _ n _) => match z0i P t with
   | some (none, _) => K (.sc (.int .i64 n))
   | _ => False
 | _ => False) := by unfold lenW; rfl
theorem zr3 (H : Heap) (x : AV) (K : AV → Prop) : nilW H x K =
 (match x with
 | .ptr K' o => K (.ptr K' o)
 | .rp l => K (.rp l)
 | .lp K' n i j => match H K' with
   | .lst _ l _ => l.length = n ∧ K (.lp K' n i j)
   | _ => False
 | .fn f c => K (.fn f c)
 | .sc (.pointer (some a)) => K (.sc (.pointer (some a)))
 | .sc (.func (.func f) fi c) => K (.sc (.func (.func f) fi c))
 | _ => False) := by unfold nilW; rfl
theorem zr4 (P : Program) (sp : Spec) (H : Heap) (e : Operand → AV) (op : Op) (K : AV → Prop) : valW P sp H e op K =
 (match op with
 | .move x => K (e x)
 | .assign x => K (e x)
 | .pick c x y => match e c with
   | .sc (.bool t) => K (if t = true then e x else e y)
   | _ => False
 | .load t p => placeW H (e p) fun cs => z5b P t cs K
 | .fieldAddr s x f => z0s P H s f (e x) K
 | .indexAddr t x ix => z0t P H t (e x) (e ix) K
 | .field t x f => z6r P t f (e x) K
 | .index t x ix => z6s P t (e x) (e ix) K
 | .extract t i => match e t with
   | .tup l => match l[i]? with
     | some x => K x
     | none => False
   | _ => False
 | .nilCheck x => nilW H (e x) K
 | .unOp op _ x => unW op (e x) K
 | .binOp op t x y _ => binW P sp op t (e x) (e y) K
 | .convert src dst x => zbo P src dst (e x) K
 | .slice t x lo hi mx => mx = none ∧ z6t P t (e x) (lo.map e) (hi.map e) K
 | .makeFunc fn first cap => match fn with
   | .func f => first.size = 0 ∧ K (.fn f (cap.toList.map e))
   | _ => False
 | .call c => match c.callee with
   | .builtin .len => match c.args.toList, c.argTypes.toList with
     | [x], [t] => lenW P H t (e x) K
     | _, _ => False
   | _ => False
 | _ => False) := by unfold valW; rfl
theorem zka (P : Program) (H : Heap) (t : TypeId) (parts : List (Nat × AV)) (K : AV → Prop) : z61 P H t parts K =
 (match z18 P t with
 | some (z, plc) => z4f H (plc[·]?) (z.map .sc) parts fun l => K (.agg l)
 | none => False) := by unfold z61; rfl
theorem zkb (x : AV) (K : FuncId → List AV → Prop) : callee x K =
 (match x with
 | .sc (.func (.func g) fi c) => fi.size = 0 ∧ c.size = 0 ∧ K g []
 | .fn g c => K g c
 | _ => False) := by unfold callee; rfl
theorem zo2 (sp : Spec) (nx : Nat) (H : Heap) (f : AV) (args : List AV) (K : AV → List Row → Prop) : z9c sp nx H f args K =
 (callee f fun g cap => match mapO (z0j 3) (args ++ cap) with
 | some l => match sp.call g l with
   | some (c, r, rs) => c ∧ K (z0b nx 3 r) (rs.map (z0d nx))
   | none => False
 | none => match mapO (z4g H 4) (args ++ cap) with
   | some l => match sp.call g l with
     | some (c, r, rs) => c ∧ z1o r = true ∧ K r []
     | none => False
   | none => False) := by unfold z9c; rfl
theorem zte (P : Program) (sp : Spec) (nx : Nat) (e : Operand → AV) (H : Heap) (o : Oper) (K : AV → List Row → Prop) : qW P sp nx e H o K =
 (match o.op with
 | .alloc t => match z5d P t with
   | some z => K (.ptr nx 0) [.var (z.map .sc) t]
   | none => False
 | .box t x => z2i H (e x) fun cs => K (.ptr nx 0) [.var cs t]
 | .build t parts => z61 P H t (parts.toList.map fun p => (p.1, e p.2)) fun v => K v []
 | .buildSlice t len parts => match z2k P t with
   | some (et, z, sz) => 0 < len ∧ len * sz ≤ 10000 ∧ z4f H (fun i => some (i * sz, sz)) (rep z len) (parts.toList.map fun p => (p.1, e p.2)) fun l => l.all z7r = true ∧ K (.sl nx len) [.lst sz (z3w sz len l) et]
   | none => False
 | .call c => match c.callee with
   | .value f => z9c sp nx H (e f) (c.args.toList.map e) K
   | _ => valW P sp H e o.op fun v => K v []
 | op => valW P sp H e op fun v => K v []) := by unfold qW; rfl
theorem zkc (P : Program) (H : Heap) (t : TypeId) (p x : AV) (K : Nat → Row → Prop) : z3h P H t p x K =
 (match p with
 | .ptr K' off => match H K' with
   | .var cs e => z2i H x fun l => szOf P t = some l.length ∧ off + l.length ≤ cs.length ∧ K K' (.var (spl cs off l) e)
   | _ => False
 | .lp K' n i j => match H K' with
   | .lst sz l e => l.length = n ∧ i < l.length ∧ z2i H x fun m => szOf P t = some m.length ∧ j + m.length ≤ sz ∧ m.all z7r = true ∧ K K' (.lst sz (l.set i (spl (at_ l i) j m)) e)
   | _ => False
 | _ => False) := by unfold z3h; rfl
theorem zo3 (H : Heap) (y : AV) (K : List (List AV) → Prop) : zbr H y K =
 (match y with
 | .ro l => K l
 | .sl K' n => match H K' with
   | .lst _ l _ => l.length = n ∧ K l
   | .fro l => l.length = n ∧ K l
   | _ => False
 | .sc (.slice none 0 0) => K []
 | _ => False) := by unfold zbr; rfl
theorem zr5 (P : Program) (nx : Nat) (H : Heap) (t : TypeId) (x y : AV) (K : AV → Nat → Row → Prop) : appW P nx H t x y K =
 (match z8h P t with
 | some (e, sz, by_) => zbr H y fun l2 => (∀ c ∈ l2, c.length = sz) ∧ match x with
   | .sc (.slice none 0 0) => l2.length * by_ ≤ 140737488355328 ∧ K (.sl nx l2.length) nx (.lst sz l2 e)
   | .sl K' n => match H K' with
     | .lst sz' l e' => l.length = n ∧ sz' = sz ∧ e' = e ∧ (l.length + l2.length) * by_ ≤ 140737488355328 ∧ K (.sl K' (l ++ l2).length) K' (.lst sz (l ++ l2) e)
     | _ => False
   | _ => False
 | none => False) := by unfold appW; rfl
theorem zsj (P : Program) (sp : Spec) (env : List AV) (rows : List Row) (o : Oper) (K : AV → List Row → Prop) : opW P sp env rows o K =
 (match o.op with
 | .store t p x => z3h P (z03 rows) t (evA (envE env) p) (evA (envE env) x) fun k r => k < rows.length ∧ K (.sc undef) (setRow rows k r)
 | .call c => match c.callee with
   | .builtin .append => match c.args.toList, c.argTypes.toList with
     | [s, x], [t, t'] => t = t' ∧ appW P rows.length (z03 rows) t (evA (envE env) s) (evA (envE env) x) fun v k r => k ≤ rows.length ∧ K v (setRow rows k r)
     | _, _ => False
   | _ => qW P sp rows.length (evA (envE env)) (z03 rows) o fun v new => K v (rows ++ new)
 | _ => qW P sp rows.length (evA (envE env)) (z03 rows) o fun v new => K v (rows ++ new)) := by unfold opW; rfl
theorem zkd (H : Heap) (x : AV) (K : List AV → Prop) : z2i H x K =
 (match x with
 | .agg l => K l
 | x => oneP H x ∧ K [x]) := by unfold z2i; rfl
theorem zke (P : Program) (env : List AV) (rows : List Row) (r : ResultVar) (K : AV → Prop) : z2u P env rows r K =
 (match r with
 | .tmp t => K (envE env t)
 | .cell p t => placeW (z03 rows) (envE env p) fun cs => z5b P t cs K) := by unfold z2u; rfl
theorem zr6 (P : Program) (env : List AV) (rows : List Row) (rs : List ResultVar) (K : AV → Prop) : resW P env rows rs K =
 (match rs with
 | [] => K (.sc undef)
 | [r] => z2u P env rows r K
 | [r, r2] => z2u P env rows r fun x => z2u P env rows r2 fun y => K (.tup [x, y])
 | [r, r2, r3] => z2u P env rows r fun x => z2u P env rows r2 fun y => z2u P env rows r3 fun z => K (.tup [x, y, z])
 | _ => False) := by unfold resW; rfl
def zig {α : Type} (mkE : α → List AV) (mkR : α → List Row) (pre : α → Prop) (μ : α → Nat) (k : Nat) (Q : QT) : QT := fun e env' rows' => match e with
 | .normal => ∃ k2 env2 rows2, Weak env' rows' env2 rows2 ∧ (∃ x, env2 = mkE x ∧ rows2 = mkR x ∧ pre x ∧ μ x = k2) ∧ k2 < k
 | e => Q e env' rows'
section
variable {α : Type} {mkE : α → List AV} {mkR : α → List Row} {pre : α → Prop} {μ : α → Nat} {k : Nat}
theorem zkf : zig mkE mkR pre μ k Q .ret env rows = Q .ret env rows := by simp only [zig]
theorem zih {id : Nat} : zig mkE mkR pre μ k Q (.exit id) env rows = Q (.exit id) env rows := by simp only [zig]
theorem z5v (x : α) (h1 : Weak env rows (mkE x) (mkR x)) (h2 : pre x) (h3 : μ x < k) : zig mkE mkR pre μ k Q .normal env rows := ⟨μ x, mkE x, mkR x, h1, ⟨x, rfl, rfl, h2, rfl⟩, h3⟩
end
theorem zf4 {α : Type} {c : Code} (mkE : α → List AV) (mkR : α → List Row) (pre : α → Prop) (μ : α → Nat) (x0 : α) (h0 : Weak env rows (mkE x0) (mkR x0)) (hp : pre x0)
 (hr : ∀ x, pre x → aw P sp fl c (zig mkE mkR pre μ (μ x) Q) (mkE x) (mkR x)) : aw P sp fl (.loop c) Q env rows := by
 refine ⟨fun k env rows => ∃ x, env = mkE x ∧ rows = mkR x ∧ pre x ∧ μ x = k, μ x0, mkE x0, mkR x0, h0, ⟨x0, rfl, rfl, hp, rfl⟩, ?_⟩
 rintro k env rows ⟨x, rfl, rfl, hx, rfl⟩
 exact hr x hx
end
end Go.Proofs.YtncecbgpkoihpaaGreatDoor.Aw
namespace Go.Proofs.YtncecbgpkoihpaaGreatDoor.Aw
abbrev awA := And.intro @zqr <| And.intro @zk1 <| And.intro @zid <| And.intro @zie <| And.intro @znt <| And.intro @zk2 <| And.intro @znu <| And.intro @zk3 <| And.intro @zqs <| And.intro @zqt <| And.intro @znv <| And.intro @zsg <| And.intro @ztc <| And.intro @ztd <| And.intro @znw <| And.intro @zqu <| And.intro @znx <| And.intro @zsh <| And.intro @zf1 <| And.intro @znr <| And.intro @zk0 <| And.intro @zbs <| And.intro @zic <| And.intro @zf2 <| And.intro @zkf <| And.intro @zih <| And.intro @zny <| And.intro @zif <| And.intro @zqv <| And.intro @zqw <| And.intro @zk5 <| And.intro @zo0 <| And.intro @zbt <| And.intro @zqx <| And.intro @zbu <| And.intro @zqy <| And.intro @zqz <| And.intro @zr0 <| And.intro @zr1 <| And.intro @zsi <| And.intro @zo1 <| And.intro @zk6 <| And.intro @zk7 <| And.intro @zk8 <| And.intro @zk9 <| And.intro @zr2 <| And.intro @zr3 <| And.intro @zr4 <| And.intro @zka <| And.intro @zkb <| And.intro @zo2 <| And.intro @zte <| And.intro @zkc <| And.intro @zo3 <| And.intro @zr5 <| And.intro @zsj <| And.intro @zkd <| And.intro @zke <| And.intro @zr6 <| And.intro @znz <| @zf3
abbrev awB := And.intro @znq <| And.intro @true_and <| And.intro @and_true <| And.intro @List.getD_cons_zero.{0} <| And.intro @List.getD_cons_succ.{0} <| And.intro @List.set_cons_zero.{0} <| And.intro @List.set_cons_succ.{0} <| And.intro @List.length_nil.{0} <| And.intro @List.length_cons.{0} <| And.intro @List.nil_append.{0} <| And.intro @List.cons_append.{0} <| And.intro @List.append_nil.{0} <| And.intro @List.toList_toArray.{0} <| And.intro @List.drop_zero.{0} <| And.intro @List.drop_succ_cons.{0} <| And.intro @List.take_succ_cons.{0} <| And.intro @List.take_zero.{0} <| And.intro @List.length_map.{0, 0} <| And.intro @Bool.false_eq_true <| And.intro @false_and <| And.intro @and_false <| And.intro @if_true.{1} <| And.intro @if_false.{1} <| And.intro @Option.map_some.{0, 0} <| And.intro @Option.bind_some.{0, 0} <| And.intro @zsd <| And.intro @z8e <| And.intro @Int.ofNat_lt <| And.intro @Int.ofNat_le <| And.intro @Int.natCast_nonneg <| And.intro @Int.toNat_natCast <| And.intro @decide_true <| And.intro @decide_false <| And.intro @Bool.not_true <| And.intro @Bool.not_false <| And.intro @Bool.or_true <| And.intro @Bool.true_or <| And.intro @Bool.or_false <| And.intro @Bool.false_or <| And.intro @Bool.and_true <| And.intro @Bool.true_and <| And.intro @Bool.and_false <| And.intro @Bool.false_and <| And.intro @beq_self_eq_true.{0} <| And.intro @bne_self_eq_false.{0} <| And.intro @List.getElem?_toArray.{0} <| And.intro @List.getElem?_cons_zero.{0} <| And.intro @List.getElem?_cons_succ.{0} <| And.intro @Option.some.injEq.{0} <| And.intro @AV.sc.injEq <| And.intro @Value.bool.injEq <| And.intro @Value.int.injEq <| And.intro @Value.string.injEq <| And.intro @List.map_cons.{0, 0} <| And.intro @List.map_nil.{0, 0} <| And.intro @Nat.le_refl <| And.intro @Nat.lt_irrefl <| And.intro @zta <| And.intro @ztb <| @zns
end Go.Proofs.YtncecbgpkoihpaaGreatDoor.Aw
