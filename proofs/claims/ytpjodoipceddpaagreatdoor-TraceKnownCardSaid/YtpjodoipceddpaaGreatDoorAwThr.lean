/- Abstract walks: how the simplifier goes through code. -/
import Derived.Test.YtpjodoipceddpaaGreatDoorAwTwo
namespace Go.Proofs.YtpjodoipceddpaaGreatDoor.Aw
open Go.RowKit
section
variable {P : Program} {sp : Spec} {fl : List (Nat × Fls)} {Q : QT} {env env' : List AV} {rows rows' : List Row}
def seqQ (P:Program) (sp:Spec) (fl:List (Nat×Fls)) (y:Code) (Q:QT):QT:=fun e env rows=>match e with
 |.normal=>aw P sp fl y Q env rows
 |e=>Q e env rows
def blockQ (id:Nat) (Q:QT):QT:=fun e env rows=>match e with
 |.exit id'=>if id'=id then Q .normal env rows else Q (.exit id') env rows
 |e=>Q e env rows
def Dr (ms:Fls) (draw:Bool) (ops:Array Oper):Prop:=draw=true→drawA ms ops=true
theorem Dr_of {ms:Fls} {draw:Bool} {ops:Array Oper} (h:drawA ms ops=true):Dr ms draw ops:=fun _=>h
theorem Dr_false {ms:Fls} {ops:Array Oper}:Dr ms false ops=True:=by unfold Dr;simp
theorem seqQ_normal {y:Code}:seqQ P sp fl y Q .normal env rows=aw P sp fl y Q env rows:=by simp only[seqQ]
theorem seqQ_ret {y:Code}:seqQ P sp fl y Q .ret env rows=Q .ret env rows:=by simp only[seqQ]
theorem seqQ_exit {y:Code} {id:Nat}:seqQ P sp fl y Q (.exit id) env rows=Q (.exit id) env rows:=by simp only[seqQ]
theorem blockQ_normal {id:Nat}:blockQ id Q .normal env rows=Q .normal env rows:=by simp only[blockQ]
theorem blockQ_ret {id:Nat}:blockQ id Q .ret env rows=Q .ret env rows:=by simp only[blockQ]
theorem blockQ_exit {id id':Nat}:blockQ id Q (.exit id') env rows=if id'=id then Q .normal env rows else Q (.exit id') env rows:=by simp only[blockQ]
theorem undef_eq :undef=.tuple #[]:=by unfold undef;exact Eq.refl _
theorem beq_T {b:Bool}:(b==true)=b:=by cases b<;>decide
theorem beq_F {b:Bool}:(b==false)= !b:=by cases b<;>decide
theorem aw_skip :aw P sp fl .skip Q env rows=Q .normal env rows:=by rw[aw]
theorem aw_region {id:Nat} {ops:Array Oper} {draw:Bool}:aw P sp [] (.region id ops draw) Q env rows=(Dr [] draw ops∧opsW P sp ops ops.toList env rows (Q .normal)):=by
 rw[aw,Dr,if_neg (fun h=>by have h2:([]:Fls)=mcM:=h.2;unfold mcM at h2;cases h2),if_neg (fun h=>by cases h.2)]
 simp only[flOf,ite_self,opsS,List.drop_zero]
def regF (P:Program) (sp:Spec) (ms:Fls) (ops:Array Oper) (env:List AV) (rows:List Row) (K:List AV→List Row→Prop):Prop:=if ms=mcM then opsM P sp ops ops.toList env rows K else if isFrz ms=true then opsW P sp ops (ops.toList.take (frzAt ms)) env rows fun env rows=>sp.pins=0∧frzAll (frzKs ms) env rows fun env rows=>opsW P sp ops (ops.toList.drop (frzAt ms)) env rows K else opsW P sp ops ops.toList env rows K
theorem regF_nil {ops:Array Oper} {K:List AV→List Row→Prop}:regF P sp [] ops env rows K=opsW P sp ops ops.toList env rows K:=by
 unfold regF
 rw[if_neg (fun h2=>by unfold mcM at h2;cases h2),if_neg (fun h=>by cases h)]
theorem regF_cons {m:Nat} {ks:List Nat} {l:Fls} {ops:Array Oper} {K:List AV→List Row→Prop} (h:m≠1000000) (h0:m<2000000):regF P sp ((m,ks)::l) ops env rows K=opsW P sp ops ops.toList env rows K:=by
 unfold regF
 rw[if_neg (fun h2=>by unfold mcM at h2;cases h2;exact h rfl),if_neg (fun h2=>by unfold isFrz at h2;have:=of_decide_eq_true h2;omega)]
theorem regF_mc {ops:Array Oper} {K:List AV→List Row→Prop}:regF P sp mcM ops env rows K=opsM P sp ops ops.toList env rows K:=by
 unfold regF
 rw[if_pos rfl]
def frzQ (P:Program) (sp:Spec) (ops:Array Oper) (i:Nat) (K:List AV→List Row→Prop):List AV→List Row→Prop:=fun env rows=>opsW P sp ops (ops.toList.drop i) env rows K
theorem frzQ_eq {ops:Array Oper} {i:Nat} {K:List AV→List Row→Prop}:frzQ P sp ops i K env rows=opsW P sp ops (ops.toList.drop i) env rows K:=rfl
def frzP (P:Program) (sp:Spec) (ops:Array Oper) (i:Nat) (Ks:List Nat) (K:List AV→List Row→Prop):List AV→List Row→Prop:=fun env rows=>sp.pins=0∧frzAll Ks env rows (frzQ P sp ops i K)
theorem frzP_eq {ops:Array Oper} {i:Nat} {Ks:List Nat} {K:List AV→List Row→Prop}:frzP P sp ops i Ks K env rows=(sp.pins=0∧frzAll Ks env rows (frzQ P sp ops i K)):=rfl
theorem regF_fz {i:Nat} {Ks:List Nat} {ops:Array Oper} {K:List AV→List Row→Prop}:regF P sp (frzI i Ks) ops env rows K=opsW P sp ops (ops.toList.take i) env rows (frzP P sp ops i Ks K):=by
 have h1:frzAt (frzI i Ks)=i:=by unfold frzI frzAt;exact Nat.add_sub_cancel_left ..
 unfold regF
 rw[if_neg (fun h2=>by unfold mcM frzI at h2;simp only[List.cons.injEq,Prod.mk.injEq] at h2;omega),if_pos (by unfold frzI isFrz;exact decide_eq_true (by omega)),h1]
 rfl
theorem frzAll_nil {c:List AV→List Row→Prop}:frzAll [] env rows c=c env rows:=rfl
theorem frzAll_cons {K:Nat} {Ks:List Nat} {c:List AV→List Row→Prop}:frzAll (K::Ks) env rows c=(match rows.getD K .dead with
 |.lst _ l _=>frzAll Ks (env.map (frz1 K l)) ((rows.map (frzR K l)).set K (.fro l)) c
 |_=>False):=by rw[frzAll];rfl
theorem aw_regionF {id:Nat} {ops:Array Oper} {x:Nat×Fls}:aw P sp (x::fl) (.region id ops false) Q env rows=regF P sp (flOf (x::fl) id) ops env rows (Q .normal):=by
 rw[aw,regF]
 simp[opsS]
theorem aw_regionT {id:Nat} {ops:Array Oper} {x:Nat×Fls}:aw P sp (x::fl) (.region id ops true) Q env rows=(Dr (flOf (x::fl) id) true ops∧opsS P sp ops (flOf (x::fl) id) 0 env rows (Q .normal)):=by
 rw[aw,Dr,if_neg (fun h=>by cases h.1),if_neg (fun h=>by cases h.1)]
 simp only[if_true]
def mcF (sp:Spec) (c:Call):Option (FuncId×List Operand):=match c.callee with
 |.value (.func g)=>if sp.ms.contains g then some (g,c.args.toList) else none
 |_=>none
def mcUU (nx:Nat) (env:List AV) (rows:List Row) (s:List Nat) (K:AV→List AV→List Row→Prop) (x:Option (Prop×AV×List Row)):Prop:=match x with
 |some (c,r,rows1)=>c∧s.length≤rows1.length∧K (renO (fun j=>some (getI s nx j)) 3 r) (env.map (renO (keepI s rows) 3)) (mcRows s nx rows1 rows 0 rows++(rows1.drop s.length).map (renR fun j=>some (getI s nx j)))
 |none=>False
theorem flOf_nil {id:Nat}:flOf [] id=[]:=by rw[flOf]
theorem flOf_cons {i id:Nat} {ms:Fls} {l:List (Nat×Fls)}:flOf ((i,ms)::l) id=if i=id then ms else flOf l id:=by rw[flOf]
theorem opsS_nil {ops:Array Oper} {b:Nat} {K:List AV→List Row→Prop}:opsS P sp ops [] b env rows K=opsW P sp ops (ops.toList.drop b) env rows K:=by rw[opsS]
def rckQ (P:Program) (sp:Spec) (ops:Array Oper) (ks:List Nat) (ms:Fls) (m:Nat) (K:List AV→List Row→Prop):List AV→List Row→Prop:=fun env rows=>rck P sp ops env rows ks∧opsS P sp ops ms m env rows K
theorem opsS_cons {ops:Array Oper} {b m:Nat} {ks:List Nat} {ms:Fls} {K:List AV→List Row→Prop}:opsS P sp ops ((m,ks)::ms) b env rows K=opsW P sp ops ((ops.toList.drop b).take (m+1 - b)) env rows (rckQ P sp ops ks ms (m+1) K):=by rw[opsS];rfl
theorem rckQ_eq {ops:Array Oper} {ks:List Nat} {ms:Fls} {m:Nat} {K:List AV→List Row→Prop}:rckQ P sp ops ks ms m K env rows=(rck P sp ops env rows ks∧opsS P sp ops ms m env rows K):=by rw[rckQ]
theorem rck_nil {ops:Array Oper}:rck P sp ops env rows []=True:=by rw[rck]
theorem rck_cons {ops:Array Oper} {k:Nat} {ks:List Nat}:rck P sp ops env rows (k::ks)=((match ops[k]? with
 |some o=>(match o.dst with
  |some t=>valW P sp (listH rows) (evA (envE env)) o.op (fun v=>v=envE env t)
  |none=>False)
 |none=>False)∧rck P sp ops env rows ks):=by rw[rck];rfl
theorem aw_seq {x y:Code}:aw P sp fl (.seq x y) Q env rows=aw P sp fl x (seqQ P sp fl y Q) env rows:=by rw[aw];rfl
theorem aw_cond {c:Operand} {x y:Code}:aw P sp fl (.cond c x y) Q env rows=(match evA (envE env) c with
 |.sc (.bool b)=>(b=true→aw P sp fl x Q env rows)∧(b=false→aw P sp fl y Q env rows)
 |_=>False):=by rw[aw];rfl
theorem aw_block {id:Nat} {c:Code}:aw P sp fl (.block id c) Q env rows=aw P sp fl c (blockQ id Q) env rows:=by rw[aw];rfl
theorem aw_exit {id:Nat}:aw P sp fl (.exit id) Q env rows=Q (.exit id) env rows:=by rw[aw]
theorem aw_scope {c:Code}:aw P sp fl (.scope c) Q env rows=aw P sp fl c (noG Q) env rows:=by rw[aw]
theorem noG_normal :noG Q .normal env rows=Q .normal env rows:=by simp only[noG]
theorem noG_ret :noG Q .ret env rows=Q .ret env rows:=by simp only[noG]
theorem noG_exit {id:Nat}:noG Q (.exit id) env rows=Q (.exit id) env rows:=by simp only[noG]
theorem aw_label {id:Nat}:aw P sp fl (.label id) Q env rows=Q .normal env rows:=by rw[aw]
theorem aw_ret :aw P sp fl .ret Q env rows=Q .ret env rows:=by rw[aw]
theorem opsW_nil {ops:Array Oper} {K:List AV→List Row→Prop}:opsW P sp ops [] env rows K=K env rows:=by rw[opsW]
theorem opsW_plain {ops:Array Oper} {d:Option Tmp} {op:Op} {ty:TypeId} {pos:String} {af:Array Edge} {l:List Oper} {K:List AV→List Row→Prop}:opsW P sp ops (⟨d,op,ty,pos,af,none⟩::l) env rows K=opW P sp env rows ⟨d,op,ty,pos,af,none⟩ fun v rows'=>opsW P sp ops l (putE env d v) rows' K:=by rw[opsW]
def guardB (ops:Array Oper) (env:List AV) (j:Nat) (want:Bool):Option Bool:=
 match (ops[j]?).bind (·.dst) with
 |some t=>match envE env t with
  |.sc (.bool b)=>some (b==want)
  |.sc _=>some false
  |_=>none
 |none=>none
theorem opsW_gT {ops:Array Oper} {d:Option Tmp} {op:Op} {ty:TypeId} {pos:String} {af:Array Edge} {j:Nat} {want:Bool} {l:List Oper} {K:List AV→List Row→Prop} (h:guardB ops env j want=some true):opsW P sp ops (⟨d,op,ty,pos,af,some (j,want)⟩::l) env rows K=
 opW P sp env rows ⟨d,op,ty,pos,af,some (j,want)⟩ fun v rows'=>opsW P sp ops l (putE env d v) rows' K:=by
 unfold guardB at h
 rw[opsW]
 simp only
 split at h<;>try (cases h;done)
 rename_i t ht
 rw[ht]
 simp only
 split at h<;>try (cases h;done)
 rename_i b hb
 rw[hb]
 simp only[Option.some.injEq,beq_iff_eq] at h
 simp[h]
theorem opsW_gF {ops:Array Oper} {d:Option Tmp} {op:Op} {ty:TypeId} {pos:String} {af:Array Edge} {j:Nat} {want:Bool} {l:List Oper} {K:List AV→List Row→Prop} (h:guardB ops env j want=some false):opsW P sp ops (⟨d,op,ty,pos,af,some (j,want)⟩::l) env rows K=
 opsW P sp ops l (putE env d (.sc undef)) rows K:=by
 unfold guardB at h
 rw[opsW]
 simp only
 split at h<;>try (cases h;done)
 rename_i t ht
 rw[ht]
 simp only
 split at h<;>try (cases h;done)
 · rename_i b hb
   rw[hb]
   simp only[Option.some.injEq,beq_eq_false_iff_ne] at h
   simp[h]
 · rename_i u hn hu
   rw[hu]
   cases u with
   |bool c=>exact absurd rfl (hn c)
   |_=>rfl
theorem aw_cT {c:Operand} {x y:Code} (h:evA (envE env) c=.sc (.bool true)):aw P sp fl (.cond c x y) Q env rows=aw P sp fl x Q env rows:=by
 rw[aw_cond,h]
 simp
theorem aw_cF {c:Operand} {x y:Code} (h:evA (envE env) c=.sc (.bool false)):aw P sp fl (.cond c x y) Q env rows=aw P sp fl y Q env rows:=by
 rw[aw_cond,h]
 simp
theorem retV_ret {l:List ResultVar} {r:AV}:retV P l r .ret env rows=resW P env rows l fun x=>frzA (listH rows) 3 x=some r:=by simp only[retV]
theorem retV_normal {l:List ResultVar} {r:AV}:retV P l r .normal env rows=resW P env rows l fun x=>frzA (listH rows) 3 x=some r:=by simp only[retV]
theorem placeW_eq (H:Heap) (x:AV) (K:List AV→Prop):placeW H x K=
 (match x with
 |.ptr K' off=>match H K' with
  |.var cs _=>K (cs.drop off)
  |_=>False
 |.rp l=>K l
 |.lp K' n i j=>match H K' with
  |.lst _ l _=>l.length=n∧i<l.length∧K ((at_ l i).drop j)
  |_=>False
 |_=>False):=by unfold placeW;rfl
theorem takeW_eq (P:Program) (t:TypeId) (cs:List AV) (K:AV→Prop):takeW P t cs K=
 (match rowSz P t with
 |some (some s)=>s≤cs.length∧K (.agg (cs.take s))
 |some none=>match cs with
  |c::_=>K c
  |[]=>False
 |none=>False):=by unfold takeW;rfl
theorem fieldAddrW_eq (P:Program) (H:Heap) (s:TypeId) (f:Nat) (x:AV) (K:AV→Prop):fieldAddrW P H s f x K=
 (match fieldOff P s f with
 |none=>False
 |some fo=>match x with
  |.ptr K' o=>K (.ptr K' (o+fo))
  |.rp l=>K (.rp (l.drop fo))
  |.lp K' n i j=>match H K' with
   |.lst _ l _=>l.length=n∧K (.lp K' n i (j+fo))
   |_=>False
  |_=>False):=by unfold fieldAddrW;rfl
theorem idxW_eq (i:Int) (len:Nat) (K:Nat→Prop):idxW i len K=
 (0≤i∧i<len∧K i.toNat):=by unfold idxW;rfl
theorem indexAddrW_eq (P:Program) (H:Heap) (t:TypeId) (x ix:AV) (K:AV→Prop):indexAddrW P H t x ix K=
 (match ix with
 |.sc (.int _ i)=>match idxInfo P t with
  |some (none,s)=>match x with
   |.ro l=>idxW i l.length fun q=>(at_ l q).length=s∧K (.rp (at_ l q))
   |.sl K' n=>match H K' with
    |.lst sz l _=>l.length=n∧sz=s∧idxW i n fun q=>K (.lp K' n q 0)
    |.fro l=>l.length=n∧idxW i n fun q=>(at_ l q).length=s∧K (.rp (at_ l q))
    |_=>False
   |_=>False
  |some (some len,s)=>match x with
   |.ptr K' o=>idxW i len fun q=>K (.ptr K' (o+q*s))
   |.rp l=>idxW i len fun q=>K (.rp (l.drop (q*s)))
   |_=>False
  |none=>False
 |_=>False):=by unfold indexAddrW;rfl
theorem intW_eq (op:BinOp) (k:IntKind) (a b:Int) (K:AV→Prop):intW op k a b K=
 (match op with
 |.add=>K (.sc (.int k (k.wrap (a+b))))
 |.sub=>K (.sc (.int k (k.wrap (a - b))))
 |.mul=>K (.sc (.int k (k.wrap (a*b))))
 |.quo=>b≠0∧K (.sc (.int k (k.wrap (a.tdiv b))))
 |.rem=>b≠0∧K (.sc (.int k (a.tmod b)))
 |.eql=>K (.sc (.bool (a==b)))
 |.neq=>K (.sc (.bool (a !=b)))
 |.lss=>K (.sc (.bool (decide (a<b))))
 |.leq=>K (.sc (.bool (decide (a≤b))))
 |.gtr=>K (.sc (.bool (decide (a>b))))
 |.geq=>K (.sc (.bool (decide (a≥b))))
 |_=>False):=by unfold intW;rfl
theorem strW_eq (op:BinOp) (a b:ByteArray) (K:AV→Prop):strW op a b K=
 (match op with
 |.add=>a.size+b.size≤9223372036854775807∧K (.sc (.string (a++b)))
 |.eql=>K (.sc (.bool (decide (a=b))))
 |.neq=>K (.sc (.bool (!decide (a=b))))
 |.lss=>K (.sc (.bool (Op.bytesLess a.toList b.toList)))
 |.leq=>K (.sc (.bool (Op.bytesLess a.toList b.toList||decide (a=b))))
 |.gtr=>K (.sc (.bool (!(Op.bytesLess a.toList b.toList||decide (a=b)))))
 |.geq=>K (.sc (.bool (!Op.bytesLess a.toList b.toList)))
 |_=>False):=by unfold strW;rfl
theorem eqsW_eq (sp:Spec) (op:BinOp) (t:TypeId) (l m:List AV) (K:AV→Prop):eqsW sp op t l m K=
 (match allSc l,allSc m with
 |some a,some b=>match sp.eqs t a b with
  |some r=>match op with
   |.eql=>K (.sc (.bool r))
   |.neq=>K (.sc (.bool (!r)))
   |_=>False
  |none=>False
 |_,_=>False):=by unfold eqsW;rfl
theorem binW_eq (P:Program) (sp:Spec) (op:BinOp) (t:TypeId) (x y:AV) (K:AV→Prop):binW P sp op t x y K=
 (match x with
 |.sc (.int k a)=>match y with
  |.sc (.int k' b)=>k=k'∧intW op k a b K
  |_=>False
 |.sc (.string a)=>match y with
  |.sc (.string b)=>strW op a b K
  |_=>False
 |.sc (.bool a)=>match y with
  |.sc (.bool b)=>isBool P t=true∧match op with
   |.eql=>K (.sc (.bool (a==b)))
   |.neq=>K (.sc (.bool (!(a==b))))
   |_=>False
  |_=>False
 |.agg l=>match y with
  |.agg m=>eqsW sp op t l m K
  |_=>False
 |_=>False):=by unfold binW;rfl
theorem unW_eq (op:UnOp) (x:AV) (K:AV→Prop):unW op x K=
 (match op with
 |.not=>match x with
  |.sc (.bool b)=>K (.sc (.bool (!b)))
  |_=>False
 |.neg=>match x with
  |.sc (.int k n)=>K (.sc (.int k (k.wrap (0 - n))))
  |_=>False
 |_=>False):=by unfold unW;rfl
theorem convW_eq (P:Program) (src dst:TypeId) (x:AV) (K:AV→Prop):convW P src dst x K=
 ((P.underlying src).isSome=true∧match x with
 |.sc (.int _ n)=>match intKindOf P dst with
  |some k=>K (.sc (.int k (k.wrap n)))
  |none=>False
 |.sc (.string s)=>isStr P dst=true∧K (.sc (.string s))
 |.ro l=>match u8s l with
  |some xs=>(xs≠[]∧isBytes P src=true∧isStr P dst=true)∧K (.sc (.string (strOfNums xs)))
  |none=>False
 |_=>False):=by unfold convW;rfl
theorem fieldW_eq (P:Program) (t:TypeId) (f:Nat) (x:AV) (K:AV→Prop):fieldW P t f x K=
 (match x with
 |.agg l=>match partInfo P t f with
  |some (off,ft)=>takeW P ft (l.drop off) K
  |none=>False
 |_=>False):=by unfold fieldW;rfl
theorem indexW_eq (P:Program) (t:TypeId) (x ix:AV) (K:AV→Prop):indexW P t x ix K=
 (match ix with
 |.sc (.int _ i)=>match x with
  |.sc (.string s)=>isStr P t=true∧idxW i s.size fun q=>K (.sc (.int .u8 (byteAt s q)))
  |.agg l=>match elemInfo P t with
   |some (len,et,sz)=>idxW i len fun q=>takeW P et (l.drop (q*sz)) K
   |none=>False
  |_=>False
 |_=>False):=by unfold indexW;rfl
theorem boundW_eq (d:Nat) (x:Option AV) (K:Int→Prop):boundW d x K=
 (match x with
 |none=>K d
 |some (.sc (.int _ i))=>K i
 |_=>False):=by unfold boundW;rfl
theorem sliceW_eq (P:Program) (t:TypeId) (x:AV) (lo hi:Option AV) (K:AV→Prop):sliceW P t x lo hi K=
 (match x with
 |.sc (.string s)=>isStr P t=true∧boundW s.size hi fun h=>boundW 0 lo fun l=>0≤l∧l≤h∧h≤s.size∧K (.sc (.string (s.extract l.toNat h.toNat)))
 |.ro es=>match idxInfo P t with
  |some (none,sz)=>boundW es.length hi fun h=>boundW 0 lo fun l=>0≤l∧l≤h∧h≤es.length∧(∀e∈es,e.length=sz)∧K (.ro ((es.take h.toNat).drop l.toNat))
  |_=>False
 |.ptr K' off=>match idxInfo P t with
  |some (some len,sz)=>sz=1∧len≤1000000∧boundW len hi fun h=>boundW 0 lo fun l=>0≤l∧l≤h∧h≤len∧l<len∧K (.sv K' (off+l.toNat) (h.toNat - l.toNat))
  |_=>False
 |_=>False):=by unfold sliceW;rfl
theorem lookW_eq (P:Program) (t:TypeId) (x ix:AV) (ok:Bool) (K:AV→Prop):lookW P t x ix ok K=
 (match mapZero P t with
 |some z=>match x with
  |.mp l=>match ix with
   |.sc (.string k)=>K (lookR (lookB l k) z ok)
   |_=>False
  |_=>False
 |none=>False):=by unfold lookW;rfl
theorem lenW_eq (P:Program) (H:Heap) (t:TypeId) (x:AV) (K:AV→Prop):lenW P H t x K=
 (match x with
 |.sc (.string s)=>isStr P t=true∧K (.sc (.int .i64 s.size))
 |.ro l=>match idxInfo P t with
  |some (none,_)=>K (.sc (.int .i64 l.length))
  |_=>False
 |.sl K' n=>match idxInfo P t with
  |some (none,_)=>(H K').len=some n∧K (.sc (.int .i64 n))
  |_=>False
 |.sc (.slice _ n _)=>match idxInfo P t with
  |some (none,_)=>K (.sc (.int .i64 n))
  |_=>False
 |_=>False):=by unfold lenW;rfl
theorem nilW_eq (H:Heap) (x:AV) (K:AV→Prop):nilW H x K=
 (match x with
 |.ptr K' o=>K (.ptr K' o)
 |.rp l=>K (.rp l)
 |.lp K' n i j=>match H K' with
  |.lst _ l _=>l.length=n∧K (.lp K' n i j)
  |_=>False
 |.fn f c=>K (.fn f c)
 |.sc (.pointer (some a))=>K (.sc (.pointer (some a)))
 |.sc (.func (.func f) fi c)=>K (.sc (.func (.func f) fi c))
 |_=>False):=by unfold nilW;rfl
theorem valW_eq (P:Program) (sp:Spec) (H:Heap) (e:Operand→AV) (op:Op) (K:AV→Prop):valW P sp H e op K=
 (match op with
 |.move x=>K (e x)
 |.assign x=>K (e x)
 |.pick c x y=>match e c with
  |.sc (.bool t)=>K (if t=true then e x else e y)
  |_=>False
 |.load t p=>placeW H (e p) fun cs=>takeW P t cs K
 |.fieldAddr s x f=>fieldAddrW P H s f (e x) K
 |.indexAddr t x ix=>indexAddrW P H t (e x) (e ix) K
 |.field t x f=>fieldW P t f (e x) K
 |.index t x ix=>indexW P t (e x) (e ix) K
 |.extract t i=>match e t with
  |.tup l=>match l[i]? with
   |some x=>K x
   |none=>False
  |_=>False
 |.nilCheck x=>nilW H (e x) K
 |.unOp op _ x=>unW op (e x) K
 |.binOp op t x y _=>binW P sp op t (e x) (e y) K
 |.convert src dst x=>convW P src dst (e x) K
 |.slice t x lo hi mx=>mx=none∧sliceW P t (e x) (lo.map e) (hi.map e) K
 |.lookup t x ix ok=>lookW P t (e x) (e ix) ok K
 |.makeFunc fn first cap=>match fn with
  |.func f=>first.size=0∧K (.fn f (cap.toList.map e))
  |_=>False
 |.call c=>match c.callee with
  |.builtin .len=>match c.args.toList,c.argTypes.toList with
   |[x],[t]=>lenW P H t (e x) K
   |_,_=>False
  |.builtin .max=>match c.args.toList.map e with
   |[.sc (.int k p),.sc (.int _ q)]=>K (.sc (.int k (if q>p then q else p)))
   |_=>False
  |_=>False
 |_=>False):=by unfold valW;rfl
theorem buildW_eq (P:Program) (H:Heap) (t:TypeId) (parts:List (Nat×AV)) (K:AV→Prop):buildW P H t parts K=
 (match buildInfo P t with
 |some (z,plc)=>fillW H (plc[·]?) (z.map .sc) parts fun l=>K (.agg l)
 |none=>False):=by unfold buildW;rfl
theorem callee_eq (x:AV) (K:FuncId→List AV→Prop):callee x K=
 (match x with
 |.sc (.func (.func g) fi c)=>fi.size=0∧c.size=0∧K g []
 |.fn g c=>K g c
 |_=>False):=by unfold callee;rfl
theorem callW_eq (sp:Spec) (nx:Nat) (H:Heap) (f:AV) (args:List AV) (K:AV→List Row→Prop):callW sp nx H f args K=
 (callee f fun g cap=>match mapO (closeA 3) (args++cap) with
 |some l=>match sp.call g l with
  |some (c,r,rs)=>c∧K (shiftA nx 3 r) (rs.map (shiftR nx))
  |none=>False
 |none=>match mapO (viewA H 4) (args++cap) with
  |some l=>match sp.call g l with
   |some (c,r,rs)=>c∧flatA r=true∧K r []
   |none=>False
  |none=>False):=by unfold callW;rfl
theorem qW_eq (P:Program) (sp:Spec) (nx:Nat) (e:Operand→AV) (H:Heap) (o:Oper) (K:AV→List Row→Prop):qW P sp nx e H o K=
 (match o.op with
 |.alloc t=>match zeroOf P t with
  |some z=>K (.ptr nx 0) [.var (z.map .sc) t]
  |none=>False
 |.box t x=>cellsW H (e x) fun cs=>K (.ptr nx 0) [.var cs t]
 |.build t parts=>buildW P H t (parts.toList.map fun p=>(p.1,e p.2)) fun v=>K v []
 |.buildSlice t len parts=>match sliceInfo P t with
  |some (et,z,sz)=>0<len∧len*sz≤10000∧fillW H (fun i=>some (i*sz,sz)) (rep z len) (parts.toList.map fun p=>(p.1,e p.2)) fun l=>l.all closed1=true∧(if sp.lit=true then K (.ro (chunks sz len l)) [.fro (chunks sz len l)] else K (.sl nx len) [.lst sz (chunks sz len l) et])
  |none=>False
 |.call c=>match c.callee with
  |.value f=>callW sp nx H (e f) (c.args.toList.map e) K
  |_=>valW P sp H e o.op fun v=>K v []
 |op=>valW P sp H e op fun v=>K v []):=by unfold qW;rfl
theorem storeW_eq (P:Program) (H:Heap) (t:TypeId) (p x:AV) (K:Nat→Row→Prop):storeW P H t p x K=
 (match p with
 |.ptr K' off=>match H K' with
  |.var cs e=>cellsW H x fun l=>szOf P t=some l.length∧off+l.length≤cs.length∧K K' (.var (spl cs off l) e)
  |_=>False
 |.lp K' n i j=>match H K' with
  |.lst sz l e=>l.length=n∧i<l.length∧cellsW H x fun m=>szOf P t=some m.length∧j+m.length≤sz∧m.all closed1=true∧K K' (.lst sz (l.set i (spl (at_ l i) j m)) e)
  |_=>False
 |_=>False):=by unfold storeW;rfl
theorem newsW_eq (H:Heap) (y:AV) (K:List (List AV)→Prop):newsW H y K=
 (match y with
 |.ro l=>K l
 |.sl K' n=>match H K' with
  |.lst _ l _=>l.length=n∧K l
  |.fro l=>l.length=n∧K l
  |_=>False
 |.sc (.slice none 0 0)=>K []
 |_=>False):=by unfold newsW;rfl
theorem appW_eq (P:Program) (nx:Nat) (H:Heap) (t:TypeId) (x y:AV) (K:AV→Nat→Row→Prop):appW P nx H t x y K=
 (match elInfo P t with
 |some (e,sz,by_)=>newsW H y fun l2=>(∀c∈l2,c.length=sz)∧match x with
  |.sc (.slice none 0 0)=>l2.length*by_≤140737488355328∧K (.sl nx l2.length) nx (.lst sz l2 e)
  |.sl K' n=>match H K' with
   |.lst sz' l e'=>l.length=n∧sz'=sz∧e'=e∧(l.length+l2.length)*by_≤140737488355328∧K (.sl K' (l++l2).length) K' (.lst sz (l++l2) e)
   |_=>False
  |.ro l=>l2=[]∧K (.ro l) nx .dead
  |_=>False
 |none=>False):=by unfold appW;rfl
theorem opW_eq (P:Program) (sp:Spec) (env:List AV) (rows:List Row) (o:Oper) (K:AV→List Row→Prop):opW P sp env rows o K=
 (match o.op with
 |.store t p x=>storeW P (listH rows) t (evA (envE env) p) (evA (envE env) x) fun k r=>k<rows.length∧K (.sc undef) (setRow rows k r)
 |.call c=>match c.callee with
  |.builtin .append=>match c.args.toList,c.argTypes.toList with
   |[s,x],[t,t']=>t=t'∧appW P rows.length (listH rows) t (evA (envE env) s) (evA (envE env) x) fun v k r=>k≤rows.length∧K v (setRow rows k r)
   |_,_=>False
  |_=>qW P sp rows.length (evA (envE env)) (listH rows) o fun v new=>K v (rows++new)
 |_=>qW P sp rows.length (evA (envE env)) (listH rows) o fun v new=>K v (rows++new)):=by unfold opW;rfl
theorem cellsW_eq (H:Heap) (x:AV) (K:List AV→Prop):cellsW H x K=
 (match x with
 |.agg l=>K l
 |x=>oneP H x∧K [x]):=by unfold cellsW;rfl
theorem resOne_eq (P:Program) (env:List AV) (rows:List Row) (r:ResultVar) (K:AV→Prop):resOne P env rows r K=
 (match r with
 |.tmp t=>K (envE env t)
 |.cell p t=>placeW (listH rows) (envE env p) fun cs=>takeW P t cs K):=by unfold resOne;rfl
theorem resW_eq (P:Program) (env:List AV) (rows:List Row) (rs:List ResultVar) (K:AV→Prop):resW P env rows rs K=
 (match rs with
 |[]=>K (.sc undef)
 |[r]=>resOne P env rows r K
 |[r,r2]=>resOne P env rows r fun x=>resOne P env rows r2 fun y=>K (.tup [x,y])
 |[r,r2,r3]=>resOne P env rows r fun x=>resOne P env rows r2 fun y=>resOne P env rows r3 fun z=>K (.tup [x,y,z])
 |_=>False):=by unfold resW;rfl
def loopQ {α:Type} (mkE:α→List AV) (mkR:α→List Row) (pre:α→Prop) (μ:α→Nat) (k:Nat) (Q:QT):QT:=fun e env' rows'=>match e with
 |.normal=>∃k2 env2 rows2,Weak env' rows' env2 rows2∧(∃x,env2=mkE x∧rows2=mkR x∧pre x∧μ x=k2)∧k2<k
 |e=>Q e env' rows'
section
variable {α : Type} {mkE : α → List AV} {mkR : α → List Row} {pre : α → Prop} {μ : α → Nat} {k : Nat}
theorem loopQ_ret :loopQ mkE mkR pre μ k Q .ret env rows=Q .ret env rows:=by simp only[loopQ]
theorem loopQ_exit {id:Nat}:loopQ mkE mkR pre μ k Q (.exit id) env rows=Q (.exit id) env rows:=by simp only[loopQ]
theorem loopQ_next (x:α) (h1:Weak env rows (mkE x) (mkR x)) (h2:pre x) (h3:μ x<k):loopQ mkE mkR pre μ k Q .normal env rows:=⟨μ x,mkE x,mkR x,h1,⟨x,rfl,rfl,h2,rfl⟩,h3⟩
end
theorem aw_loop {α:Type} {c:Code} (mkE:α→List AV) (mkR:α→List Row) (pre:α→Prop) (μ:α→Nat) (x0:α) (h0:Weak env rows (mkE x0) (mkR x0)) (hp:pre x0)
 (hr:∀x,pre x→aw P sp fl c (loopQ mkE mkR pre μ (μ x) Q) (mkE x) (mkR x)) (hpr:∀x,pre x→pinR sp.pins (mkR x):=by exact fun _ _=>trivial):aw P sp fl (.loop c) Q env rows:=by
 refine⟨fun k env rows=>∃x,env=mkE x∧rows=mkR x∧pre x∧μ x=k,μ x0,mkE x0,mkR x0,⟨[],fun h=>absurd rfl h,h0⟩,⟨x0,rfl,rfl,hp,rfl⟩,fun k env rows ⟨x,_,h2,h3,_⟩=>h2 ▸ hpr x h3, ?_⟩
 rintro k env rows ⟨x,rfl,rfl,hx,rfl⟩
 exact hr x hx
end
end Go.Proofs.YtpjodoipceddpaaGreatDoor.Aw
namespace Go.Proofs.YtpjodoipceddpaaGreatDoor.Aw
open Go.RowKit
structure Cdc (α:Type) where
 enc:α→AV
 dec:AV→Option α
 de:∀a,dec (enc a)=some a
 ed:∀x a,dec x=some a→x=enc a
structure Cdl (α:Type) where
 enc:α→List AV
 dec:List AV→Option α
 de:∀a,dec (enc a)=some a
 ed:∀x a,dec x=some a→x=enc a
def cS :Cdc ByteArray where
 enc:=fun b=>.sc (.string b)
 dec:=fun x=>match x with
  |.sc (.string b)=>some b
  |_=>none
 de:=fun a=>rfl
 ed:=fun x a h=>by
  split at h
  · cases h;rfl
  · cases h
def Spec.tell (sp:Spec) (f:FuncId) (g:List AV→Option (Prop×AV×List Row)):Spec:={sp with call:=fun f' args=>if f'=f then g args else sp.call f' args}
section
variable {P : Program} {sp : Spec} {w0 : World} {fp : Nat → Prop} {fl : List (Nat × Fls)} {Q : QT} {env : List AV} {rows : List Row}
theorem tell_same {f:FuncId} {g:List AV→Option (Prop×AV×List Row)} {args:List AV}:(sp.tell f g).call f args=g args:=if_pos rfl
theorem tell_ne {f f':FuncId} {g:List AV→Option (Prop×AV×List Row)} {args:List AV} (h:(f'==f)=false):(sp.tell f g).call f' args=sp.call f' args:=if_neg (by simpa using h)
theorem tell_ok (h:SpecOk P sp w0 fp) {f:FuncId} {g:List AV→Option (Prop×AV×List Row)} (he:Enters P f) (hc:∀args c r rs,g args=some (c,r,rs)→c→∀w,Fr fp w0 w→ConAt P w f args r rs):SpecOk P (sp.tell f g) w0 fp:=by
 refine⟨h.eqs,fun f' args c r rs hh=> ?_,h.callM⟩
 unfold Spec.tell at hh
 simp only at hh
 split at hh
 · rename_i e
   subst e
   exact⟨he,hc args c r rs hh⟩
 · exact h.call f' args c r rs hh
def spN :Spec:=⟨fun _ _=>none,fun _ _ _=>none,fun _ _ _=>none,[],0,false⟩
theorem spN_ok (w:World):SpecOk P spN w fp:=⟨fun t a b r h=>(by cases h),fun f args c r rs h=>(by cases h),fun f args rows c r rs h=>by cases h⟩
theorem enters_of' {g:FuncId} {fn:Func} (h:P.funcs[g]? =some fn) (h1:((fn.name== "runtime.NumGoroutine")||fn.body.isNone)=false):Enters P g:=by
 rw[Bool.or_eq_false_iff] at h1
 exact⟨fn,h,h1.1,h1.2⟩
theorem at_some {α:Type} {f:α→List AV} {l:List α} {i:Nat} {a:α} (h:l[i]? =some a):at_ (l.map f) i=f a:=by
 unfold at_
 rw[List.getD_eq_getElem?_getD,List.getElem?_map,h]
 rfl
end
theorem con_flat {P:Program} {f:FuncId} {args:List AV} {u:Value} {w:World} (h:∀(S:Nat→Prop) (vs:List Value),(∀k,S k→k<w.heap.size)→args.length=vs.length→(∀(i:Nat) x v,args[i]? =some x→vs[i]? =some v→VC S w x v)→
 Calls P f vs.toArray w fun e w'=>e=.returned u∧Fr (fun _=>False) w w'):ConAt P w f args (.sc u) []:=by
 intro S vs hS hl hv
 refine(h S vs hS hl hv).mono fun e w' ⟨he,hf⟩=>⟨u,⟨fun _=>0,fun _=>undef,fun _=>none,S⟩,he, ?_,.cl _ _ (.sc u)⟩
 have hd:∀K,listH [] K=.dead:=fun K=>rfl
 refine⟨hf,fun K=>by rw[hd];trivial,fun K k hk=> ?_,fun K K' k hk=> ?_,fun k hk=>Nat.lt_of_lt_of_le (hS k hk) hf.size,fun k hk=>hk,fun k hk=>.inl hk,fun p hp=>by cases hp⟩
 · unfold Owns at hk;rw[hd] at hk;exact hk.elim
 · unfold Owns at hk;rw[hd] at hk;exact hk.elim
theorem con_new {P:Program} {f:FuncId} {args:List AV} {r:AV} {w:World} (h:∀(S:Nat→Prop) (vs:List Value),(∀k,S k→k<w.heap.size)→args.length=vs.length→(∀(i:Nat) x v,args[i]? =some x→vs[i]? =some v→VC S w x v)→
 Calls P f vs.toArray w fun e w'=>∃v S',e=.returned v∧(∀k,S' k→w.heap.size≤k∧k<w'.heap.size∧Unfz w' k)∧VC S' w' r v∧Fr (fun _=>False) w w'):ConAt P w f args r []:=by
 intro S vs hS hl hv
 refine(h S vs hS hl hv).mono fun e w' ⟨v,S',he,hS',hr,hf⟩=>⟨v,⟨fun _=>0,fun _=>undef,fun _=>none,fun k=>S k∨S' k⟩,he, ?_,.cl _ _ (hr.keep (fun k hk=>.inr hk) (fun _ _=>rfl))⟩
 have hd:∀K,listH [] K=.dead:=fun K=>rfl
 refine⟨hf,fun K=>by rw[hd];trivial,fun K k hk=> ?_,fun K K' k hk=> ?_,fun k hk=>hk.elim (fun hk=>Nat.lt_of_lt_of_le (hS k hk) hf.size) (fun hk=>(hS' k hk).2.1),fun k hk=>.inl hk,fun k hk=>hk.imp id (fun hk=>⟨(hS' k hk).1,(hS' k hk).2.2⟩),fun p hp=>by cases hp⟩
 · unfold Owns at hk;rw[hd] at hk;exact hk.elim
 · unfold Owns at hk;rw[hd] at hk;exact hk.elim
theorem con_tup {P:Program} {f:FuncId} {args:List AV} {l:List AV} {w:World} (h:∀(S:Nat→Prop) (vs:List Value),(∀k,S k→k<w.heap.size)→args.length=vs.length→(∀(i:Nat) x v,args[i]? =some x→vs[i]? =some v→VC S w x v)→
 Calls P f vs.toArray w fun e w'=>∃(us:List Value) (S':Nat→Prop),e=.returned (.tuple us.toArray)∧(∀k,S' k→w.heap.size≤k∧k<w'.heap.size∧Unfz w' k)∧l.length=us.length∧(∀(i:Nat) x v,l[i]? =some x→us[i]? =some v→VC S' w' x v)∧Fr (fun _=>False) w w'):ConAt P w f args (.tup l) []:=by
 intro S vs hS hl hv
 refine(h S vs hS hl hv).mono fun e w' ⟨us,S',he,hS',hlen,hr,hf⟩=>⟨.tuple us.toArray,⟨fun _=>0,fun _=>undef,fun _=>none,fun k=>S k∨S' k⟩,he, ?_,.tup l us hlen (fun i x v h1 h2=>.cl _ _ ((hr i x v h1 h2).keep (fun k hk=>.inr hk) (fun _ _=>rfl)))⟩
 have hd:∀K,listH [] K=.dead:=fun K=>rfl
 refine⟨hf,fun K=>by rw[hd];trivial,fun K k hk=> ?_,fun K K' k hk=> ?_,fun k hk=>hk.elim (fun hk=>Nat.lt_of_lt_of_le (hS k hk) hf.size) (fun hk=>(hS' k hk).2.1),fun k hk=>.inl hk,fun k hk=>hk.imp id (fun hk=>⟨(hS' k hk).1,(hS' k hk).2.2⟩),fun p hp=>by cases hp⟩
 · unfold Owns at hk;rw[hd] at hk;exact hk.elim
 · unfold Owns at hk;rw[hd] at hk;exact hk.elim
section
variable {P : Program} {sp : Spec} {w0 : World} {fp : Nat → Prop} {fl : List (Nat × Fls)} {Q : QT} {env : List AV} {rows : List Row}
end
end Go.Proofs.YtpjodoipceddpaaGreatDoor.Aw
namespace Go.Proofs.YtpjodoipceddpaaGreatDoor.Aw
open Go.RowKit
def deads (n:Nat):List AV:=List.replicate n .dead
def Spec.pin (sp:Spec) (n:Nat):Spec:={sp with pins:=n}
theorem pin_pins {sp:Spec} {n:Nat}:(sp.pin n).pins=n:=rfl
theorem wr_lt {i n:Nat} (h:i<n) (hn:n≤9223372036854775807):IntKind.i64.wrap ((i:Int)+1)=((i+1:Nat):Int):=by rw[IntWalk.i64_in _ (by omega)];omega
theorem wr_pred {i:Nat} (hn:i≤9223372036854775806):IntKind.i64.wrap (((i+1:Nat):Int) - 1)=(i:Int):=by rw[IntWalk.i64_in _ (by omega)];omega
def Spec.lits (sp:Spec):Spec:={sp with lit:=true}
theorem lits_ok {P:Program} {sp:Spec} {w:World} {fp:Nat→Prop} (h:SpecOk P sp w fp):SpecOk P sp.lits w fp:=⟨h.eqs,h.call,h.callM⟩
theorem lits_call {sp:Spec} {f:FuncId} {args:List AV}:sp.lits.call f args=sp.call f args:=rfl
noncomputable def byE {α:Type} (enc:α→List AV) (pre:α→Prop) (r:α→AV):List AV→Option (Prop×AV×List Row):=fun args=>
 open Classical in if h:∃x,enc x=args then some (pre h.choose,r h.choose,[]) else none
section
variable {P : Program} {sp : Spec} {w0 w : World} {fp : Nat → Prop}
theorem byE_eq {α:Type} {enc:α→List AV} {pre:α→Prop} {r:α→AV} (hi:∀x y,enc x=enc y→x=y) (x:α):byE enc pre r (enc x)=some (pre x,r x,[]):=by
 unfold byE
 have h:∃y,enc y=enc x:=⟨x,rfl⟩
 rw[dif_pos h,hi _ _ h.choose_spec]
theorem byE_ok {α:Type} {enc:α→List AV} {pre:α→Prop} {r:α→AV} {f:FuncId} (h:∀a,pre a→∀w,Fr fp w0 w→ConAt P w f (enc a) (r a) []):∀args c r' rs,byE enc pre r args=some (c,r',rs)→c→∀w,Fr fp w0 w→ConAt P w f args r' rs:=by
 intro args c r' rs hh hc w hw
 unfold byE at hh
 split at hh
 · rename_i hx
   cases hh
   have:=h _ hc w hw
   rw[hx.choose_spec] at this
   exact this
 · cases hh
end
end Go.Proofs.YtpjodoipceddpaaGreatDoor.Aw
namespace Go.Proofs.YtpjodoipceddpaaGreatDoor.Aw
abbrev awA :=And.intro @aw_skip<|And.intro @aw_region<|And.intro @aw_regionF<|And.intro @aw_regionT<|And.intro @flOf_nil<|And.intro @flOf_cons<|And.intro @opsS_nil<|And.intro @opsS_cons<|And.intro @rckQ_eq<|And.intro @rck_nil<|And.intro @rck_cons<|And.intro @aw_seq<|And.intro @aw_cT<|And.intro @aw_cF<|And.intro @aw_block<|And.intro @aw_exit<|And.intro @aw_label<|And.intro @aw_scope<|And.intro @noG_normal<|And.intro @noG_ret<|And.intro @noG_exit<|And.intro @aw_ret<|And.intro @seqQ_normal<|And.intro @seqQ_ret<|And.intro @seqQ_exit<|And.intro @blockQ_normal<|And.intro @blockQ_ret<|And.intro @blockQ_exit<|And.intro @loopQ_ret<|And.intro @loopQ_exit<|And.intro @opsW_nil<|And.intro @opsW_plain<|And.intro @opsW_gT<|And.intro @opsW_gF<|And.intro @placeW_eq<|And.intro @takeW_eq<|And.intro @fieldAddrW_eq<|And.intro @idxW_eq<|And.intro @indexAddrW_eq<|And.intro @intW_eq<|And.intro @strW_eq<|And.intro @eqsW_eq<|And.intro @binW_eq<|And.intro @unW_eq<|And.intro @convW_eq<|And.intro @fieldW_eq<|And.intro @indexW_eq<|And.intro @boundW_eq<|And.intro @sliceW_eq<|And.intro @lookW_eq<|And.intro @lenW_eq<|And.intro @nilW_eq<|And.intro @valW_eq<|And.intro @buildW_eq<|And.intro @callee_eq<|And.intro @callW_eq<|And.intro @qW_eq<|And.intro @storeW_eq<|And.intro @newsW_eq<|And.intro @appW_eq<|And.intro @opW_eq<|And.intro @cellsW_eq<|And.intro @resOne_eq<|And.intro @resW_eq<|And.intro @retV_ret<|And.intro @retV_normal<|And.intro @regF_nil<|And.intro @regF_cons<|And.intro @regF_fz<|And.intro @frzQ_eq<|And.intro @frzP_eq<|And.intro @frzAll_nil<|And.intro @frzAll_cons<| @regF_mc
abbrev awB :=And.intro @Dr_false<|And.intro @true_and<|And.intro @and_true<|And.intro @List.getD_cons_zero.{0}<|And.intro @List.getD_cons_succ.{0}<|And.intro @List.set_cons_zero.{0}<|And.intro @List.set_cons_succ.{0}<|And.intro @List.length_nil.{0}<|And.intro @List.length_cons.{0}<|And.intro @List.nil_append.{0}<|And.intro @List.cons_append.{0}<|And.intro @List.append_nil.{0}<|And.intro @List.toList_toArray.{0}<|And.intro @List.drop_zero.{0}<|And.intro @List.drop_succ_cons.{0}<|And.intro @List.take_succ_cons.{0}<|And.intro @List.take_zero.{0}<|And.intro @List.length_map.{0,0}<|And.intro @Bool.false_eq_true<|And.intro @false_and<|And.intro @and_false<|And.intro @if_true.{1}<|And.intro @if_false.{1}<|And.intro @Option.map_some.{0,0}<|And.intro @Option.bind_some.{0,0}<|And.intro @at_map<|And.intro @at_get<|And.intro @Int.ofNat_lt<|And.intro @Int.ofNat_le<|And.intro @Int.natCast_nonneg<|And.intro @Int.toNat_natCast<|And.intro @decide_true<|And.intro @decide_false<|And.intro @Bool.not_true<|And.intro @Bool.not_false<|And.intro @Bool.or_true<|And.intro @Bool.true_or<|And.intro @Bool.or_false<|And.intro @Bool.false_or<|And.intro @Bool.and_true<|And.intro @Bool.true_and<|And.intro @Bool.and_false<|And.intro @Bool.false_and<|And.intro @beq_self_eq_true.{0}<|And.intro @bne_self_eq_false.{0}<|And.intro @List.getElem?_toArray.{0}<|And.intro @List.getElem?_cons_zero.{0}<|And.intro @List.getElem?_cons_succ.{0}<|And.intro @Option.some.injEq.{0}<|And.intro @AV.sc.injEq<|And.intro @Value.bool.injEq<|And.intro @Value.int.injEq<|And.intro @Value.string.injEq<|And.intro @List.map_cons.{0,0}<|And.intro @List.map_nil.{0,0}<|And.intro @Nat.le_refl<|And.intro @Nat.lt_irrefl<|And.intro @beq_T<|And.intro @beq_F<|And.intro @undef_eq<|And.intro @List.all_cons.{0}<|And.intro @List.all_nil.{0}<|And.intro @Option.isSome_some.{0}<|And.intro @List.mem_cons.{0}<|And.intro @List.mem_singleton.{0}<|And.intro @List.not_mem_nil.{0}<|And.intro @or_false<|And.intro @forall_eq.{1}<|And.intro @forall_eq_or_imp.{1}<|And.intro @List.length_set.{0}<|And.intro @ne_eq.{1}<|And.intro @not_false_eq_true<|And.intro @not_true_eq_false<|And.intro @List.size_toArray.{0}<| @List.size_toArray.{0}
end Go.Proofs.YtpjodoipceddpaaGreatDoor.Aw
