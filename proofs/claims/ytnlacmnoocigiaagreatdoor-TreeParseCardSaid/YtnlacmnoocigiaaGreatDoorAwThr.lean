/- Abstract walks: how the simplifier goes through code. -/
import Derived.Test.YtnlacmnoocigiaaGreatDoorAwTwo
namespace Go.Proofs.YtnlacmnoocigiaaGreatDoor.Aw
open Go.RowKit
section
variable {P : Program} {sp : Spec} {fl : List (Nat × Fls)} {Q : QT} {env env' : List AV} {rows rows' : List Row}
def seqQ (P:Program)(sp:Spec)(fl:List (Nat×Fls))(y:Code)(Q:QT):QT:=fun e env rows=>match e with
 |.normal=>aw P sp fl y Q env rows
 |e=>Q e env rows
def zb3 (id:Nat)(Q:QT):QT:=fun e env rows=>match e with
 |.exit id'=>if id'=id then Q .normal env rows else Q (.exit id') env rows
 |e=>Q e env rows
def Dr (ms:Fls)(draw:Bool)(ops:Array Oper):Prop:=draw=true→zck 0 ms ops=true
def DrE (k:Nat)(ms:Fls)(draw:Bool)(ops:Array Oper):Prop:=draw=true→zck k ms ops=true
theorem z31 {k:Nat}{ms:Fls}{draw:Bool}{ops:Array Oper}(h:zck k ms ops=true):DrE k ms draw ops:=fun _=>h
theorem zje {ms:Fls}{draw:Bool}{ops:Array Oper}:DrE 0 ms draw ops=Dr ms draw ops:=rfl
theorem zl2 {id:Nat}:zjs [] id=0:=rfl
theorem zn4 {fl:List (Nat×Fls)}{id:Nat}:zjs fl id=(match flOf fl (id+3000000) with
 |(k,_)::_=>k
 |[]=>0):=rfl
theorem z1s {ms:Fls}{draw:Bool}{ops:Array Oper}(h:zck 0 ms ops=true):Dr ms draw ops:=fun _=>h
theorem zrk {ms:Fls}{ops:Array Oper}:Dr ms false ops=True:=by unfold Dr;simp
theorem zhr {y:Code}:seqQ P sp fl y Q .normal env rows=aw P sp fl y Q env rows:=by simp only[seqQ]
theorem zrl {y:Code}:seqQ P sp fl y Q .ret env rows=Q .ret env rows:=by simp only[seqQ]
theorem zn5 {y:Code}{id:Nat}:seqQ P sp fl y Q (.exit id) env rows=Q (.exit id) env rows:=by simp only[seqQ]
theorem zdw {id:Nat}:zb3 id Q .normal env rows=Q .normal env rows:=by simp only[zb3]
theorem zl3 {id:Nat}:zb3 id Q .ret env rows=Q .ret env rows:=by simp only[zb3]
theorem zhs {id id':Nat}:zb3 id Q (.exit id') env rows=if id'=id then Q .normal env rows else Q (.exit id') env rows:=by simp only[zb3]
theorem zrm :undef=.tuple #[]:=by unfold undef;exact Eq.refl _
theorem zy2 {b:Bool}:(b==true)=b:=by cases b<;>decide
theorem zy3 {b:Bool}:(b==false)= !b:=by cases b<;>decide
theorem zv0 :aw P sp fl .skip Q env rows=Q .normal env rows:=by rw[aw]
theorem zn6 {id:Nat}{ops:Array Oper}{draw:Bool}:aw P sp [] (.region id ops draw) Q env rows=(Dr [] draw ops∧opsW P sp ops ops.toList env rows (Q .normal)):=by rw[aw,zl2,←DrE,zje,if_neg (fun h=>by have h2:([]:Fls)=mcM:=h.2;unfold mcM at h2;cases h2)];simp only[flOf,ite_self,opsS,List.drop_zero]
def regF (P:Program)(sp:Spec)(ms:Fls)(ops:Array Oper)(env:List AV)(rows:List Row)(K:List AV→List Row→Prop):Prop:=if ms=mcM then opsM P sp ops ops.toList env rows K else opsW P sp ops ops.toList env rows K
theorem zrn {ops:Array Oper}{K:List AV→List Row→Prop}:regF P sp [] ops env rows K=opsW P sp ops ops.toList env rows K:=by unfold regF;rw[if_neg (fun h2=>by unfold mcM at h2;cases h2)]
theorem zn7 {m:Nat}{ks:List Nat}{l:Fls}{ops:Array Oper}{K:List AV→List Row→Prop}(h:m≠1000000):regF P sp ((m,ks)::l) ops env rows K=opsW P sp ops ops.toList env rows K:=by unfold regF;rw[if_neg (fun h2=>by unfold mcM at h2;cases h2;exact h rfl)]
theorem zv1 {ops:Array Oper}{K:List AV→List Row→Prop}:regF P sp mcM ops env rows K=opsM P sp ops ops.toList env rows K:=by unfold regF;rw[if_pos rfl]
theorem zl4 {id:Nat}{ops:Array Oper}{x:Nat×Fls}:aw P sp (x::fl) (.region id ops false) Q env rows=regF P sp (flOf (x::fl) id) ops env rows (Q .normal):=by rw[aw,regF];simp[opsS]
theorem zl5 {id:Nat}{ops:Array Oper}{x:Nat×Fls}:aw P sp (x::fl) (.region id ops true) Q env rows=(DrE (zjs (x::fl) id) (flOf (x::fl) id) true ops∧opsS P sp ops (flOf (x::fl) id) 0 env rows (Q .normal)):=by rw[aw,DrE,if_neg (fun h=>by cases h.1)];simp only[if_true]
def mcQ (P:Program)(sp:Spec)(ops:Array Oper)(d:Option Tmp)(l:List Oper)(K:List AV→List Row→Prop):AV→List AV→List Row→Prop:=fun v env' rows'=>opsM P sp ops l (putE env' d v) rows' K
theorem zx0 {ops:Array Oper}{d:Option Tmp}{l:List Oper}{K:List AV→List Row→Prop}{v:AV}{env':List AV}{rows':List Row}:mcQ P sp ops d l K v env' rows'=opsM P sp ops l (putE env' d v) rows' K:=rfl
def zv2 (P:Program)(sp:Spec)(ops:Array Oper)(l:List Oper)(K:List AV→List Row→Prop):List AV→List Row→Prop:=fun env rows=>opsM P sp ops l env rows K
theorem zro {ops:Array Oper}{l:List Oper}{K:List AV→List Row→Prop}:zv2 P sp ops l K env rows=opsM P sp ops l env rows K:=rfl
def mcF (sp:Spec)(c:Call):Option (FuncId×List Operand):=match c.callee with
 |.value (.func g)=>if sp.ms.contains g then some (g,c.args.toList) else none
 |_=>none
def zrp (P:Program)(sp:Spec)(ops:Array Oper)(m:Option (FuncId×List Operand))(o:Oper)(l:List Oper)(env:List AV)(rows:List Row)(K:List AV→List Row→Prop):Prop:=match m with
 |some (g,xs)=>o.guard=none∧mcW sp env rows g (xs.map (evA (envE env))) (mcQ P sp ops o.dst l K)
 |none=>opsW P sp ops [o] env rows (zv2 P sp ops l K)
theorem zrq {ops:Array Oper}{K:List AV→List Row→Prop}:opsM P sp ops [] env rows K=K env rows:=by rw[opsM]
theorem zn8 {ops:Array Oper}{o:Oper}{l:List Oper}{K:List AV→List Row→Prop}:opsM P sp ops (o::l) env rows K=zrp P sp ops (mcOf sp o) o l env rows K:=by rw[opsM];unfold zrp;rfl
theorem zl6 {ops:Array Oper}{g:FuncId}{xs:List Operand}{o:Oper}{l:List Oper}{K:List AV→List Row→Prop}:zrp P sp ops (some (g,xs)) o l env rows K=(o.guard=none∧mcW sp env rows g (xs.map (evA (envE env))) (mcQ P sp ops o.dst l K)):=rfl
theorem zl7 {ops:Array Oper}{o:Oper}{l:List Oper}{K:List AV→List Row→Prop}:zrp P sp ops none o l env rows K=opsW P sp ops [o] env rows (zv2 P sp ops l K):=rfl
theorem zv3 {o:Oper}:mcOf sp o=(match o.op with
 |.call c=>mcF sp c
 |_=>none):=by
 unfold mcOf mcF;rfl
theorem zx1 {c:Call}:mcF sp c=(match c.callee with
 |.value (.func g)=>if sp.ms.contains g then some (g,c.args.toList) else none
 |_=>none):=rfl
def mcUU (nx:Nat)(env:List AV)(rows:List Row)(s:List Nat)(K:AV→List AV→List Row→Prop)(x:Option (Prop×AV×List Row)):Prop:=match x with
 |some (c,r,rows1)=>c∧s.length≤rows1.length∧K (renO (fun j=>some (getI s nx j)) 3 r) (env.map (renO (z1g s rows) 3)) (z0w s nx rows1 rows 0 rows++(rows1.drop s.length).map (renR fun j=>some (getI s nx j)))
 |none=>False
theorem zx2 {g:FuncId}{args:List AV}{K:AV→List AV→List Row→Prop}:mcW sp env rows g args K=mcU sp rows.length env rows g args (z1a rows args) K:=rfl
theorem zx3 {nx:Nat}{g:FuncId}{args:List AV}{s:List Nat}{K:AV→List AV→List Row→Prop}:mcU sp nx env rows g args s K=(z13 s s=true∧s.all (fun k=>decide (k<nx))=true∧mcUU nx env rows s K (sp.callM g (args.map (renO (posI s) 3)) (s.map fun k=>renR (posI s) (rows.getD k .dead)))):=rfl
theorem zn9 {nx:Nat}{s:List Nat}{K:AV→List AV→List Row→Prop}{c:Prop}{r:AV}{rows1:List Row}:mcUU nx env rows s K (some (c,r,rows1))=(c∧s.length≤rows1.length∧K (renO (fun j=>some (getI s nx j)) 3 r) (env.map (renO (z1g s rows) 3)) (z0w s nx rows1 rows 0 rows++(rows1.drop s.length).map (renR fun j=>some (getI s nx j)))):=rfl
theorem zrr {l:List ResultVar}{r:AV}{rows0:List Row}:retM P sp l r rows0 .ret env rows=resW P env rows l fun x=>z1k (z00 rows) (z00 rows0) x r∧z1d (z00 rows) (z00 rows0) rows rows0∧pinR sp.pins rows0:=by simp only[retM]
theorem zht {l:List ResultVar}{r:AV}{rows0:List Row}:retM P sp l r rows0 .normal env rows=resW P env rows l fun x=>z1k (z00 rows) (z00 rows0) x r∧z1d (z00 rows) (z00 rows0) rows rows0∧pinR sp.pins rows0:=by simp only[retM]
theorem zrs {id:Nat}:flOf [] id=[]:=by rw[flOf]
theorem zna {i id:Nat}{ms:Fls}{l:List (Nat×Fls)}:flOf ((i,ms)::l) id=if i=id then ms else flOf l id:=by rw[flOf]
theorem zrt {ops:Array Oper}{b:Nat}{K:List AV→List Row→Prop}:opsS P sp ops [] b env rows K=opsW P sp ops (ops.toList.drop b) env rows K:=by rw[opsS]
def rckQ (P:Program)(sp:Spec)(ops:Array Oper)(ks:List Nat)(ms:Fls)(m:Nat)(K:List AV→List Row→Prop):List AV→List Row→Prop:=fun env rows=>rck P sp ops env rows ks∧opsS P sp ops ms m env rows K
theorem znb {ops:Array Oper}{b m:Nat}{ks:List Nat}{ms:Fls}{K:List AV→List Row→Prop}:opsS P sp ops ((m,ks)::ms) b env rows K=opsW P sp ops ((ops.toList.drop b).take (m+1 - b)) env rows (rckQ P sp ops ks ms (m+1) K):=by rw[opsS];rfl
theorem zv4 {ops:Array Oper}{ks:List Nat}{ms:Fls}{m:Nat}{K:List AV→List Row→Prop}:rckQ P sp ops ks ms m K env rows=(rck P sp ops env rows ks∧opsS P sp ops ms m env rows K):=by rw[rckQ]
theorem zv5 {ops:Array Oper}:rck P sp ops env rows []=True:=by rw[rck]
theorem zru {ops:Array Oper}{k:Nat}{ks:List Nat}:rck P sp ops env rows (k::ks)=((match ops[k]? with
 |some o=>(match o.dst with
  |some t=>valW P sp (z00 rows) (evA (envE env)) o.op (fun v=>v=envE env t)
  |none=>False)
 |none=>False)∧rck P sp ops env rows ks):=by rw[rck];rfl
theorem zx4 {x y:Code}:aw P sp fl (.seq x y) Q env rows=aw P sp fl x (seqQ P sp fl y Q) env rows:=by rw[aw];rfl
theorem znc {c:Operand}{x y:Code}:aw P sp fl (.cond c x y) Q env rows=(match evA (envE env) c with
 |.sc (.bool b)=>(b=true→aw P sp fl x Q env rows)∧(b=false→aw P sp fl y Q env rows)
 |_=>False):=by rw[aw];rfl
theorem zrv {id:Nat}{c:Code}:aw P sp fl (.block id c) Q env rows=aw P sp fl c (zb3 id Q) env rows:=by rw[aw];rfl
theorem zv6 {id:Nat}:aw P sp fl (.exit id) Q env rows=Q (.exit id) env rows:=by rw[aw]
theorem zrw {id:Nat}:aw P sp fl (.label id) Q env rows=Q .normal env rows:=by rw[aw]
theorem zx5 :aw P sp fl .ret Q env rows=Q .ret env rows:=by rw[aw]
theorem zrx {ops:Array Oper}{K:List AV→List Row→Prop}:opsW P sp ops [] env rows K=K env rows:=by rw[opsW]
theorem zl8 {ops:Array Oper}{d:Option Tmp}{op:Op}{ty:TypeId}{pos:String}{af:Array Edge}{l:List Oper}{K:List AV→List Row→Prop}:opsW P sp ops (⟨d,op,ty,pos,af,none⟩::l) env rows K=opW P sp env rows ⟨d,op,ty,pos,af,none⟩ fun v rows'=>opsW P sp ops l (putE env d v) rows' K:=by rw[opsW]
def z0f (ops:Array Oper)(env:List AV)(j:Nat)(want:Bool):Option Bool:=
 match (ops[j]?).bind (·.dst) with
 |some t=>match envE env t with
  |.sc (.bool b)=>some (b==want)
  |.sc _=>some false
  |_=>none
 |none=>none
theorem zv7 {ops:Array Oper}{d:Option Tmp}{op:Op}{ty:TypeId}{pos:String}{af:Array Edge}{j:Nat}{want:Bool}{l:List Oper}{K:List AV→List Row→Prop}(h:z0f ops env j want=some true):opsW P sp ops (⟨d,op,ty,pos,af,some (j,want)⟩::l) env rows K=
 opW P sp env rows ⟨d,op,ty,pos,af,some (j,want)⟩ fun v rows'=>opsW P sp ops l (putE env d v) rows' K:=by
 unfold z0f at h;rw[opsW];simp only;split at h<;>try (cases h;done)
 rename_i t ht;rw[ht];simp only;split at h<;>try (cases h;done)
 rename_i b hb;rw[hb];simp only[Option.some.injEq,beq_iff_eq] at h;simp[h]
theorem zv8 {ops:Array Oper}{d:Option Tmp}{op:Op}{ty:TypeId}{pos:String}{af:Array Edge}{j:Nat}{want:Bool}{l:List Oper}{K:List AV→List Row→Prop}(h:z0f ops env j want=some false):opsW P sp ops (⟨d,op,ty,pos,af,some (j,want)⟩::l) env rows K=
 opsW P sp ops l (putE env d (.sc undef)) rows K:=by
 unfold z0f at h;rw[opsW];simp only;split at h<;>try (cases h;done)
 rename_i t ht;rw[ht];simp only;split at h<;>try (cases h;done)
 · rename_i b hb;rw[hb];simp only[Option.some.injEq,beq_eq_false_iff_ne] at h;simp[h]
 · rename_i u hn hu;rw[hu]
   cases u with
   |bool c=>exact absurd rfl (hn c)
   |_=>rfl
theorem zy4 {c:Operand}{x y:Code}(h:evA (envE env) c=.sc (.bool true)):aw P sp fl (.cond c x y) Q env rows=aw P sp fl x Q env rows:=by rw[znc,h];simp
theorem zy5 {c:Operand}{x y:Code}(h:evA (envE env) c=.sc (.bool false)):aw P sp fl (.cond c x y) Q env rows=aw P sp fl y Q env rows:=by rw[znc,h];simp
theorem zry {l:List ResultVar}{r:AV}:retV P l r .ret env rows=resW P env rows l fun x=>frzA (z00 rows) 3 x=some r:=by simp only[retV]
theorem zhu {l:List ResultVar}{r:AV}:retV P l r .normal env rows=resW P env rows l fun x=>frzA (z00 rows) 3 x=some r:=by simp only[retV]
theorem znd (H:Heap)(x:AV)(K:List AV→Prop):placeW H x K=
 (match x with
 |.ptr K' off=>match H K' with
  |.var cs _=>K (cs.drop off)
  |_=>False
 |.rp l=>K l
 |.lp K' n i j=>match H K' with
  |.lst _ l _=>l.length=n∧i<l.length∧K ((at_ l i).drop j)
  |_=>False
 |_=>False):=by unfold placeW;rfl
theorem zrz (P:Program)(t:TypeId)(cs:List AV)(K:AV→Prop):z6m P t cs K=
 (match z1o P t with
 |some (some s)=>s≤cs.length∧K (.agg (cs.take s))
 |some none=>match cs with
  |c::_=>K c
  |[]=>False
 |none=>False):=by unfold z6m;rfl
theorem zdx (P:Program)(H:Heap)(s:TypeId)(f:Nat)(x:AV)(K:AV→Prop):z17 P H s f x K=
 (match z02 P s f with
 |none=>False
 |some fo=>match x with
  |.ptr K' o=>K (.ptr K' (o+fo))
  |.rp l=>K (.rp (l.drop fo))
  |.lp K' n i j=>match H K' with
   |.lst _ l _=>l.length=n∧K (.lp K' n i (j+fo))
   |_=>False
  |_=>False):=by unfold z17;rfl
theorem zv9 (i:Int)(len:Nat)(K:Nat→Prop):idxW i len K=
 (0≤i∧i<len∧K i.toNat):=by unfold idxW;rfl
theorem zdy (P:Program)(H:Heap)(t:TypeId)(x ix:AV)(K:AV→Prop):z18 P H t x ix K=
 (match ix with
 |.sc (.int _ i)=>match z0m P t with
  |some (none,s)=>match x with
   |.ro l=>idxW i l.length fun q=>(at_ l q).length=s∧K (.rp (at_ l q))
   |.sl K' n=>match H K' with
    |.lst sz l _=>l.length=n∧sz=s∧idxW i n fun q=>K (.lp K' n q 0)
    |.fro l=>l.length=n∧idxW i n fun q=>(at_ l q).length=s∧K (.rp (at_ l q))
    |_=>False
   |_=>False
  |some (some len,s)=>match x with
   |.ptr K' o=>idxW i len fun q=>K (.ptr K' (o+q*s))
   |.rp l=>idxW i len fun q=>K (.rp (l.drop (q*s)))
   |_=>False
  |none=>False
 |_=>False):=by unfold z18;rfl
theorem zva (op:BinOp)(k:IntKind)(a b:Int)(K:AV→Prop):intW op k a b K=
 (match op with
 |.add=>K (.sc (.int k (k.wrap (a+b))))
 |.sub=>K (.sc (.int k (k.wrap (a - b))))
 |.mul=>K (.sc (.int k (k.wrap (a*b))))
 |.quo=>b≠0∧K (.sc (.int k (k.wrap (a.tdiv b))))
 |.rem=>b≠0∧K (.sc (.int k (a.tmod b)))
 |.eql=>K (.sc (.bool (a==b)))
 |.neq=>K (.sc (.bool (a !=b)))
 |.lss=>K (.sc (.bool (decide (a<b))))
 |.leq=>K (.sc (.bool (decide (a≤b))))
 |.gtr=>K (.sc (.bool (decide (a>b))))
 |.geq=>K (.sc (.bool (decide (a≥b))))
 |_=>False):=by unfold intW;rfl
theorem zvb (op:BinOp)(a b:ByteArray)(K:AV→Prop):strW op a b K=
 (match op with
 |.add=>a.size+b.size≤9223372036854775807∧K (.sc (.string (a++b)))
 |.eql=>K (.sc (.bool (decide (a=b))))
 |.neq=>K (.sc (.bool (!decide (a=b))))
 |.lss=>K (.sc (.bool (Op.bytesLess a.toList b.toList)))
 |.leq=>K (.sc (.bool (Op.bytesLess a.toList b.toList||decide (a=b))))
 |.gtr=>K (.sc (.bool (!(Op.bytesLess a.toList b.toList||decide (a=b)))))
 |.geq=>K (.sc (.bool (!Op.bytesLess a.toList b.toList)))
 |_=>False):=by unfold strW;rfl
theorem zvc (sp:Spec)(op:BinOp)(t:TypeId)(l m:List AV)(K:AV→Prop):eqsW sp op t l m K=
 (match z0p l,z0p m with
 |some a,some b=>match sp.eqs t a b with
  |some r=>match op with
   |.eql=>K (.sc (.bool r))
   |.neq=>K (.sc (.bool (!r)))
   |_=>False
  |none=>False
 |_,_=>False):=by unfold eqsW;rfl
theorem zvd (P:Program)(sp:Spec)(op:BinOp)(t:TypeId)(x y:AV)(K:AV→Prop):binW P sp op t x y K=
 (match x with
 |.sc (.int k a)=>match y with
  |.sc (.int k' b)=>k=k'∧intW op k a b K
  |_=>False
 |.sc (.string a)=>match y with
  |.sc (.string b)=>strW op a b K
  |_=>False
 |.sc (.bool a)=>match y with
  |.sc (.bool b)=>zf6 P t=true∧match op with
   |.eql=>K (.sc (.bool (a==b)))
   |.neq=>K (.sc (.bool (!(a==b))))
   |_=>False
  |_=>False
 |.agg l=>match y with
  |.agg m=>eqsW sp op t l m K
  |_=>False
 |_=>False):=by unfold binW;rfl
theorem zx6 (op:UnOp)(x:AV)(K:AV→Prop):unW op x K=
 (match op with
 |.not=>match x with
  |.sc (.bool b)=>K (.sc (.bool (!b)))
  |_=>False
 |.neg=>match x with
  |.sc (.int k n)=>K (.sc (.int k (k.wrap (0 - n))))
  |_=>False
 |_=>False):=by unfold unW;rfl
theorem zs0 (P:Program)(src dst:TypeId)(x:AV)(K:AV→Prop):zds P src dst x K=
 ((P.underlying src).isSome=true∧match x with
 |.sc (.int _ n)=>match zau P dst with
  |some k=>K (.sc (.int k (k.wrap n)))
  |none=>False
 |.sc (.string s)=>z3s P dst=true∧K (.sc (.string s))
 |_=>False):=by unfold zds;rfl
theorem zne (P:Program)(t:TypeId)(f:Nat)(x:AV)(K:AV→Prop):z8d P t f x K=
 (match x with
 |.agg l=>match zdo P t f with
  |some (off,ft)=>z6m P ft (l.drop off) K
  |none=>False
 |_=>False):=by unfold z8d;rfl
theorem znf (P:Program)(t:TypeId)(x ix:AV)(K:AV→Prop):z8e P t x ix K=
 (match ix with
 |.sc (.int _ i)=>match x with
  |.sc (.string s)=>z3s P t=true∧idxW i s.size fun q=>K (.sc (.int .u8 (byteAt s q)))
  |.agg l=>match zdp P t with
   |some (len,et,sz)=>idxW i len fun q=>z6m P et (l.drop (q*sz)) K
   |none=>False
  |_=>False
 |_=>False):=by unfold z8e;rfl
theorem zng (d:Nat)(x:Option AV)(K:Int→Prop):z4k d x K=
 (match x with
 |none=>K d
 |some (.sc (.int _ i))=>K i
 |_=>False):=by unfold z4k;rfl
theorem znh (P:Program)(t:TypeId)(x:AV)(lo hi:Option AV)(K:AV→Prop):z8f P t x lo hi K=
 (match x with
 |.sc (.string s)=>z3s P t=true∧z4k s.size hi fun h=>z4k 0 lo fun l=>0≤l∧l≤h∧h≤s.size∧K (.sc (.string (s.extract l.toNat h.toNat)))
 |.ro es=>match z0m P t with
  |some (none,sz)=>z4k es.length hi fun h=>z4k 0 lo fun l=>0≤l∧l≤h∧h≤es.length∧(∀e∈es,e.length=sz)∧K (.ro ((es.take h.toNat).drop l.toNat))
  |_=>False
 |_=>False):=by unfold z8f;rfl
theorem zve (P:Program)(H:Heap)(t:TypeId)(x:AV)(K:AV→Prop):lenW P H t x K=
 (match x with
 |.sc (.string s)=>z3s P t=true∧K (.sc (.int .i64 s.size))
 |.ro l=>match z0m P t with
  |some (none,_)=>K (.sc (.int .i64 l.length))
  |_=>False
 |.sl K' n=>match z0m P t with
  |some (none,_)=>(H K').len=some n∧K (.sc (.int .i64 n))
  |_=>False
 |.sc (.slice _ n _)=>match z0m P t with
  |some (none,_)=>K (.sc (.int .i64 n))
  |_=>False
 |_=>False):=by unfold lenW;rfl
theorem zvf (H:Heap)(x:AV)(K:AV→Prop):nilW H x K=
 (match x with
 |.ptr K' o=>K (.ptr K' o)
 |.rp l=>K (.rp l)
 |.lp K' n i j=>match H K' with
  |.lst _ l _=>l.length=n∧K (.lp K' n i j)
  |_=>False
 |.fn f c=>K (.fn f c)
 |.sc (.pointer (some a))=>K (.sc (.pointer (some a)))
 |.sc (.func (.func f) fi c)=>K (.sc (.func (.func f) fi c))
 |_=>False):=by unfold nilW;rfl
theorem zvg (P:Program)(sp:Spec)(H:Heap)(e:Operand→AV)(op:Op)(K:AV→Prop):valW P sp H e op K=
 (match op with
 |.move x=>K (e x)
 |.assign x=>K (e x)
 |.pick c x y=>match e c with
  |.sc (.bool t)=>K (if t=true then e x else e y)
  |_=>False
 |.load t p=>placeW H (e p) fun cs=>z6m P t cs K
 |.fieldAddr s x f=>z17 P H s f (e x) K
 |.indexAddr t x ix=>z18 P H t (e x) (e ix) K
 |.field t x f=>z8d P t f (e x) K
 |.index t x ix=>z8e P t (e x) (e ix) K
 |.extract t i=>match e t with
  |.tup l=>match l[i]? with
   |some x=>K x
   |none=>False
  |_=>False
 |.nilCheck x=>nilW H (e x) K
 |.unOp op _ x=>unW op (e x) K
 |.binOp op t x y _=>binW P sp op t (e x) (e y) K
 |.convert src dst x=>zds P src dst (e x) K
 |.slice t x lo hi mx=>mx=none∧z8f P t (e x) (lo.map e) (hi.map e) K
 |.makeFunc fn first cap=>match fn with
  |.func f=>first.size=0∧K (.fn f (cap.toList.map e))
  |_=>False
 |.call c=>match c.callee with
  |.builtin .len=>match c.args.toList,c.argTypes.toList with
   |[x],[t]=>lenW P H t (e x) K
   |_,_=>False
  |_=>False
 |_=>False):=by unfold valW;rfl
theorem zni (P:Program)(H:Heap)(t:TypeId)(parts:List (Nat×AV))(K:AV→Prop):z7m P H t parts K=
 (match z1e P t with
 |some (z,plc)=>z0i H (plc[·]?) (z.map .sc) parts fun l=>K (.agg l)
 |none=>False):=by unfold z7m;rfl
theorem znj (x:AV)(K:FuncId→List AV→Prop):callee x K=
 (match x with
 |.sc (.func (.func g) fi c)=>fi.size=0∧c.size=0∧K g []
 |.fn g c=>K g c
 |_=>False):=by unfold callee;rfl
theorem zs1 (sp:Spec)(nx:Nat)(H:Heap)(f:AV)(args:List AV)(K:AV→List Row→Prop):zax sp nx H f args K=
 (callee f fun g cap=>match mapO (z0a 3) (args++cap) with
 |some l=>match sp.call g l with
  |some (c,r,rs)=>c∧K (z06 nx 3 r) (rs.map (z07 nx))
  |none=>False
 |none=>match mapO (z5v H 4) (args++cap) with
  |some l=>match sp.call g l with
   |some (c,r,rs)=>c∧z0q r=true∧K r []
   |none=>False
  |none=>False):=by unfold zax;rfl
theorem zy6 (P:Program)(sp:Spec)(nx:Nat)(e:Operand→AV)(H:Heap)(o:Oper)(K:AV→List Row→Prop):qW P sp nx e H o K=
 (match o.op with
 |.alloc t=>match z5h P t with
  |some z=>K (.ptr nx 0) [.var (z.map .sc) t]
  |none=>False
 |.box t x=>z3r H (e x) fun cs=>K (.ptr nx 0) [.var cs t]
 |.build t parts=>z7m P H t (parts.toList.map fun p=>(p.1,e p.2)) fun v=>K v []
 |.buildSlice t len parts=>match z3t P t with
  |some (et,z,sz)=>0<len∧len*sz≤10000∧z0i H (fun i=>some (i*sz,sz)) (rep z len) (parts.toList.map fun p=>(p.1,e p.2)) fun l=>l.all z05=true∧K (.sl nx len) [.lst sz (z09 sz len l) et]
  |none=>False
 |.call c=>match c.callee with
  |.value f=>zax sp nx H (e f) (c.args.toList.map e) K
  |_=>valW P sp H e o.op fun v=>K v []
 |op=>valW P sp H e op fun v=>K v []):=by unfold qW;rfl
theorem znk (P:Program)(H:Heap)(t:TypeId)(p x:AV)(K:Nat→Row→Prop):z4u P H t p x K=
 (match p with
 |.ptr K' off=>match H K' with
  |.var cs e=>z3r H x fun l=>szOf P t=some l.length∧off+l.length≤cs.length∧K K' (.var (spl cs off l) e)
  |_=>False
 |.lp K' n i j=>match H K' with
  |.lst sz l e=>l.length=n∧i<l.length∧z3r H x fun m=>szOf P t=some m.length∧j+m.length≤sz∧m.all z05=true∧K K' (.lst sz (l.set i (spl (at_ l i) j m)) e)
  |_=>False
 |_=>False):=by unfold z4u;rfl
theorem zs2 (H:Heap)(y:AV)(K:List (List AV)→Prop):zdv H y K=
 (match y with
 |.ro l=>K l
 |.sl K' n=>match H K' with
  |.lst _ l _=>l.length=n∧K l
  |.fro l=>l.length=n∧K l
  |_=>False
 |.sc (.slice none 0 0)=>K []
 |_=>False):=by unfold zdv;rfl
theorem zvh (P:Program)(nx:Nat)(H:Heap)(t:TypeId)(x y:AV)(K:AV→Nat→Row→Prop):appW P nx H t x y K=
 (match za2 P t with
 |some (e,sz,by_)=>zdv H y fun l2=>(∀c∈l2,c.length=sz)∧match x with
  |.sc (.slice none 0 0)=>l2.length*by_≤140737488355328∧K (.sl nx l2.length) nx (.lst sz l2 e)
  |.sl K' n=>match H K' with
   |.lst sz' l e'=>l.length=n∧sz'=sz∧e'=e∧(l.length+l2.length)*by_≤140737488355328∧K (.sl K' (l++l2).length) K' (.lst sz (l++l2) e)
   |_=>False
  |_=>False
 |none=>False):=by unfold appW;rfl
theorem zx7 (P:Program)(sp:Spec)(env:List AV)(rows:List Row)(o:Oper)(K:AV→List Row→Prop):opW P sp env rows o K=
 (match o.op with
 |.store t p x=>z4u P (z00 rows) t (evA (envE env) p) (evA (envE env) x) fun k r=>k<rows.length∧K (.sc undef) (setRow rows k r)
 |.call c=>match c.callee with
  |.builtin .append=>match c.args.toList,c.argTypes.toList with
   |[s,x],[t,t']=>t=t'∧appW P rows.length (z00 rows) t (evA (envE env) s) (evA (envE env) x) fun v k r=>k≤rows.length∧K v (setRow rows k r)
   |_,_=>False
  |_=>qW P sp rows.length (evA (envE env)) (z00 rows) o fun v new=>K v (rows++new)
 |_=>qW P sp rows.length (evA (envE env)) (z00 rows) o fun v new=>K v (rows++new)):=by unfold opW;rfl
theorem znl (H:Heap)(x:AV)(K:List AV→Prop):z3r H x K=
 (match x with
 |.agg l=>K l
 |x=>oneP H x∧K [x]):=by unfold z3r;rfl
theorem znm (P:Program)(env:List AV)(rows:List Row)(r:ResultVar)(K:AV→Prop):z43 P env rows r K=
 (match r with
 |.tmp t=>K (envE env t)
 |.cell p t=>placeW (z00 rows) (envE env p) fun cs=>z6m P t cs K):=by unfold z43;rfl
theorem zvi (P:Program)(env:List AV)(rows:List Row)(rs:List ResultVar)(K:AV→Prop):resW P env rows rs K=
 (match rs with
 |[]=>K (.sc undef)
 |[r]=>z43 P env rows r K
 |[r,r2]=>z43 P env rows r fun x=>z43 P env rows r2 fun y=>K (.tup [x,y])
 |[r,r2,r3]=>z43 P env rows r fun x=>z43 P env rows r2 fun y=>z43 P env rows r3 fun z=>K (.tup [x,y,z])
 |_=>False):=by unfold resW;rfl
def zl9 {α:Type}(mkE:α→List AV)(mkR:α→List Row)(pre:α→Prop)(μ:α→Nat)(k:Nat)(Q:QT):QT:=fun e env' rows'=>match e with
 |.normal=>∃k2 env2 rows2,Weak env' rows' env2 rows2∧(∃x,env2=mkE x∧rows2=mkR x∧pre x∧μ x=k2)∧k2<k
 |e=>Q e env' rows'
section
variable {α : Type} {mkE : α → List AV} {mkR : α → List Row} {pre : α → Prop} {μ : α → Nat} {k : Nat}
theorem znn :zl9 mkE mkR pre μ k Q .ret env rows=Q .ret env rows:=by simp only[zl9]
theorem zla {id:Nat}:zl9 mkE mkR pre μ k Q (.exit id) env rows=Q (.exit id) env rows:=by simp only[zl9]
theorem z1f (x:α)(h1:Weak env rows (mkE x) (mkR x))(h2:pre x)(h3:μ x<k):zl9 mkE mkR pre μ k Q .normal env rows:=⟨μ x,mkE x,mkR x,h1,⟨x,rfl,rfl,h2,rfl⟩,h3⟩
end
theorem z7u {α:Type}{c:Code}(mkE:α→List AV)(mkR:α→List Row)(pre:α→Prop)(μ:α→Nat)(x0:α)(h0:Weak env rows (mkE x0) (mkR x0))(hp:pre x0)
 (hr:∀x,pre x→aw P sp fl c (zl9 mkE mkR pre μ (μ x) Q) (mkE x) (mkR x)) (hpr:∀x,pre x→pinR sp.pins (mkR x):=by exact fun _ _=>trivial):aw P sp fl (.loop c) Q env rows:=by
 refine⟨fun k env rows=>∃x,env=mkE x∧rows=mkR x∧pre x∧μ x=k,μ x0,mkE x0,mkR x0,h0,⟨x0,rfl,rfl,hp,rfl⟩,fun k env rows ⟨x,_,h2,h3,_⟩=>h2 ▸ hpr x h3, ?_⟩;rintro k env rows ⟨x,rfl,rfl,hx,rfl⟩;exact hr x hx
end
end Go.Proofs.YtnlacmnoocigiaaGreatDoor.Aw
namespace Go.Proofs.YtnlacmnoocigiaaGreatDoor.Aw
open Go.RowKit
structure Cdc (α:Type) where
 enc:α→AV
 dec:AV→Option α
 de:∀a,dec (enc a)=some a
 ed:∀x a,dec x=some a→x=enc a
structure Cdl (α:Type) where
 enc:α→List AV
 dec:List AV→Option α
 de:∀a,dec (enc a)=some a
 ed:∀x a,dec x=some a→x=enc a
def cI (k:IntKind):Cdc Int where
 enc:=fun i=>.sc (.int k i)
 dec:=fun x=>match x with
  |.sc (.int k' i)=>if k'=k then some i else none
  |_=>none
 de:=fun a=>if_pos rfl
 ed:=fun x a h=>by
  split at h
  · split at h
    · rename_i e;cases h;rw[e]
    · cases h
  · cases h
def cB :Cdc Bool where
 enc:=fun b=>.sc (.bool b)
 dec:=fun x=>match x with
  |.sc (.bool b)=>some b
  |_=>none
 de:=fun a=>rfl
 ed:=fun x a h=>by
  split at h
  · cases h;rfl
  · cases h
def cS :Cdc ByteArray where
 enc:=fun b=>.sc (.string b)
 dec:=fun x=>match x with
  |.sc (.string b)=>some b
  |_=>none
 de:=fun a=>rfl
 ed:=fun x a h=>by
  split at h
  · cases h;rfl
  · cases h
def cNil :Cdl Unit where
 enc:=fun _=>[]
 dec:=fun l=>match l with
  |[]=>some ()
  |_=>none
 de:=fun _=>rfl
 ed:=fun x a h=>by
  split at h
  · rfl
  · cases h
def zx8 {α β:Type}(E:Cdc α)(F:Cdl β):Cdl (α×β) where
 enc:=fun a=>E.enc a.1::F.enc a.2
 dec:=fun l=>match l with
  |x::l=>match E.dec x,F.dec l with
   |some a,some b=>some (a,b)
   |_,_=>none
  |[]=>none
 de:=fun a=>by simp only[E.de,F.de]
 ed:=fun x a h=>by
  split at h
  · rename_i x l;split at h
    · rename_i a' b' h1 h2;cases h;rw[E.ed _ _ h1,F.ed _ _ h2]
    · cases h
  · cases h
def Spec.tell (sp:Spec)(f:FuncId)(g:List AV→Option (Prop×AV×List Row)):Spec:={sp with call:=fun f' args=>if f'=f then g args else sp.call f' args}
def byC {α β:Type}(A:Cdl α)(F:Cdc β)(pre:α→Prop)(m:α→β):List AV→Option (Prop×AV×List Row):=fun args=>(A.dec args).map fun a=>(pre a,F.enc (m a),[])
section
variable {P : Program} {sp : Spec} {w0 : World} {fp : Nat → Prop} {fl : List (Nat × Fls)} {Q : QT} {env : List AV} {rows : List Row}
theorem zx9 {α β:Type}{A:Cdl α}{F:Cdc β}{pre:α→Prop}{m:α→β}(a:α):byC A F pre m (A.enc a)=some (pre a,F.enc (m a),[]):=by unfold byC;rw[A.de];rfl
theorem z8j {f:FuncId}{g:List AV→Option (Prop×AV×List Row)}{args:List AV}:(sp.tell f g).call f args=g args:=if_pos rfl
theorem zvj {f f':FuncId}{g:List AV→Option (Prop×AV×List Row)}{args:List AV}(h:(f'==f)=false):(sp.tell f g).call f' args=sp.call f' args:=if_neg (by simpa using h)
theorem zdz (h:SpecOk P sp w0 fp){f:FuncId}{g:List AV→Option (Prop×AV×List Row)}(he:za0 P f)(hc:∀args c r rs,g args=some (c,r,rs)→c→∀w,Fr fp w0 w→zaw P w f args r rs):SpecOk P (sp.tell f g) w0 fp:=by
 refine⟨h.eqs,fun f' args c r rs hh=> ?_,h.callM⟩;unfold Spec.tell at hh;simp only at hh;split at hh
 · rename_i e;subst e;exact⟨he,hc args c r rs hh⟩
 · exact h.call f' args c r rs hh
theorem zxa {α β:Type}{A:Cdl α}{F:Cdc β}{pre:α→Prop}{m:α→β}{f:FuncId}(h:∀a,pre a→∀w,Fr fp w0 w→zaw P w f (A.enc a) (F.enc (m a)) []):∀args c r rs,byC A F pre m args=some (c,r,rs)→c→∀w,Fr fp w0 w→zaw P w f args r rs:=by intro args c r rs hh hc w hw;unfold byC at hh;rw[Option.map_eq_some_iff] at hh;obtain⟨a,ha,he⟩:=hh;cases he;rw[A.ed _ _ ha];exact h a hc w hw
def spN :Spec:=⟨fun _ _=>none,fun _ _ _=>none,fun _ _ _=>none,[],0⟩
theorem zfc (w:World):SpecOk P spN w fp:=⟨fun t a b r h=>(by cases h),fun f args c r rs h=>(by cases h),fun f args rows c r rs h=>by cases h⟩
theorem z2b {g:FuncId}{fn:Func}(h:P.funcs[g]? =some fn)(h1:((fn.name== "runtime.NumGoroutine")||fn.body.isNone)=false):za0 P g:=by rw[Bool.or_eq_false_iff] at h1;exact⟨fn,h,h1.1,h1.2⟩
theorem z9b {n:Nat}(h:n≤9000000000000000000):IntKind.i64.wrap ((n:Int)+1)=((n+1:Nat):Int):=by rw[IntWalk.i64_in _ (by omega)];omega
theorem zhv {n:Nat}(h:n≤9000000000000000000):IntKind.i64.wrap (((n+1:Nat):Int) - 1)=(n:Int):=by rw[IntWalk.i64_in _ (by omega)];omega
theorem z58 {α:Type}{f:α→List AV}{l:List α}{i:Nat}{a:α}(h:l[i]? =some a):at_ (l.map f) i=f a:=by unfold at_;rw[List.getD_eq_getElem?_getD,List.getElem?_map,h];rfl
theorem zno {l:List (List AV)}{i k:Nat}{x:List AV}(h:i≠k):at_ (l.set i x) k=at_ l k:=by unfold at_;rw[List.getD_eq_getElem?_getD,List.getElem?_set_ne h,←List.getD_eq_getElem?_getD]
end
theorem zs3 {P:Program}{f:FuncId}{args:List AV}{u:Value}{w:World}(h:∀(S:Nat→Prop) (vs:List Value),(∀k,S k→k<w.heap.size)→args.length=vs.length→(∀(i:Nat) x v,args[i]? =some x→vs[i]? =some v→VC S w x v)→
 Calls P f vs.toArray w fun e w'=>e=.returned u∧Fr (fun _=>False) w w'):zaw P w f args (.sc u) []:=by
 intro S vs hS hl hv;refine(h S vs hS hl hv).mono fun e w' ⟨he,hf⟩=>⟨u,⟨fun _=>0,fun _=>undef,fun _=>none,S⟩,he, ?_,.cl _ _ (.sc u)⟩;have hd:∀K,z00 [] K=.dead:=fun K=>rfl;refine⟨hf,fun K=>by rw[hd];trivial,fun K k hk=> ?_,fun K K' k hk=> ?_,fun k hk=>Nat.lt_of_lt_of_le (hS k hk) hf.size,fun k hk=>hk,fun k hk=>.inl hk,fun p hp=>by cases hp⟩
 · unfold Owns at hk;rw[hd] at hk;exact hk.elim
 · unfold Owns at hk;rw[hd] at hk;exact hk.elim
theorem zvk {P:Program}{f:FuncId}{args:List AV}{l:List AV}{w:World}(h:∀(S:Nat→Prop) (vs:List Value),(∀k,S k→k<w.heap.size)→args.length=vs.length→(∀(i:Nat) x v,args[i]? =some x→vs[i]? =some v→VC S w x v)→
 Calls P f vs.toArray w fun e w'=>∃(us:List Value) (S':Nat→Prop),e=.returned (.tuple us.toArray)∧(∀k,S' k→w.heap.size≤k∧k<w'.heap.size)∧l.length=us.length∧(∀(i:Nat) x v,l[i]? =some x→us[i]? =some v→VC S' w' x v)∧Fr (fun _=>False) w w'):zaw P w f args (.tup l) []:=by
 intro S vs hS hl hv;refine(h S vs hS hl hv).mono fun e w' ⟨us,S',he,hS',hlen,hr,hf⟩=>⟨.tuple us.toArray,⟨fun _=>0,fun _=>undef,fun _=>none,fun k=>S k∨S' k⟩,he, ?_,.tup l us hlen (fun i x v h1 h2=>.cl _ _ ((hr i x v h1 h2).keep (fun k hk=>.inr hk) (fun _ _=>rfl)))⟩;have hd:∀K,z00 [] K=.dead:=fun K=>rfl;refine⟨hf,fun K=>by rw[hd];trivial,fun K k hk=> ?_,fun K K' k hk=> ?_,fun k hk=>hk.elim (fun hk=>Nat.lt_of_lt_of_le (hS k hk) hf.size) (fun hk=>(hS' k hk).2),fun k hk=>.inl hk,fun k hk=>hk.imp id (fun hk=>(hS' k hk).1),fun p hp=>by cases hp⟩
 · unfold Owns at hk;rw[hd] at hk;exact hk.elim
 · unfold Owns at hk;rw[hd] at hk;exact hk.elim
section
variable {P : Program} {sp : Spec} {w0 : World} {fp : Nat → Prop} {fl : List (Nat × Fls)} {Q : QT} {env : List AV} {rows : List Row}
end
end Go.Proofs.YtnlacmnoocigiaaGreatDoor.Aw
namespace Go.Proofs.YtnlacmnoocigiaaGreatDoor.Aw
open Go.RowKit
noncomputable def byE {α:Type}(enc:α→List AV)(pre:α→Prop)(r:α→AV):List AV→Option (Prop×AV×List Row):=fun args=>
 open Classical in if h:∃x,enc x=args then some (pre h.choose,r h.choose,[]) else none
noncomputable def byX {α:Type}(enc:α→List AV×List Row)(pre:α→Prop)(r:α→AV)(rs:α→List Row):List AV→List Row→Option (Prop×AV×List Row):=fun args rows=>
 open Classical in if h:∃x,enc x=(args,rows) then some (pre h.choose,r h.choose,rs h.choose) else none
def Spec.tellM (sp:Spec)(f:FuncId)(g:List AV→List Row→Option (Prop×AV×List Row)):Spec:={sp with callM:=fun f' args rows=>if f'=f then g args rows else sp.callM f' args rows,ms:=f::sp.ms}
section
variable {P : Program} {sp : Spec} {w0 w : World} {fp : Nat → Prop}
theorem znp {α:Type}{enc:α→List AV}{pre:α→Prop}{r:α→AV}(hi:∀x y,enc x=enc y→x=y)(x:α):byE enc pre r (enc x)=some (pre x,r x,[]):=by unfold byE;have h:∃y,enc y=enc x:=⟨x,rfl⟩;rw[dif_pos h,hi _ _ h.choose_spec]
theorem zct {α:Type}{enc:α→List AV×List Row}{pre:α→Prop}{r:α→AV}{rs:α→List Row}(hi:∀x y,enc x=enc y→x=y)(x:α):byX enc pre r rs (enc x).1 (enc x).2=some (pre x,r x,rs x):=by unfold byX;have h:∃y,enc y=((enc x).1,(enc x).2):=⟨x,rfl⟩;rw[dif_pos h,hi _ x h.choose_spec]
theorem znq {α:Type}{enc:α→List AV}{pre:α→Prop}{r:α→AV}{f:FuncId}(h:∀a,pre a→∀w,Fr fp w0 w→zaw P w f (enc a) (r a) []):∀args c r' rs,byE enc pre r args=some (c,r',rs)→c→∀w,Fr fp w0 w→zaw P w f args r' rs:=by
 intro args c r' rs hh hc w hw;unfold byE at hh;split at hh
 · rename_i hx;cases hh;have:=h _ hc w hw;rw[hx.choose_spec] at this;exact this
 · cases hh
theorem ConMAt.mono {fq fq':Nat→Prop}{f:FuncId}{args:List AV}{rows rows':List Row}{r:AV}(h:ConMAt P w fq' f args rows r rows')(hi:∀k,fq k→fq' k):ConMAt P w fq f args rows r rows':=fun fp S I vs hfp=>h fp S I vs (fun k hk=>hi k (hfp k hk))
theorem zfd {α:Type}{enc:α→List AV×List Row}{pre:α→Prop}{r:α→AV}{rs:α→List Row}{f:FuncId}(h:∀a,pre a→∀w,Fr fp w0 w→ConMAt P w (fun _=>True) f (enc a).1 (enc a).2 (r a) (rs a)):
 ∀args rows c r' rs',byX enc pre r rs args rows=some (c,r',rs')→c→∀w,Fr fp w0 w→ConMAt P w (fun k=>fp k∨w0.heap.size≤k) f args rows r' rs':=by
 intro args rows c r' rs' hh hc w hw;unfold byX at hh;split at hh
 · rename_i hx;cases hh;have:=h _ hc w hw;rw[hx.choose_spec] at this;exact this.mono (fun _ _=>trivial)
 · cases hh
theorem z4e {f:FuncId}{g:List AV→List Row→Option (Prop×AV×List Row)}{args:List AV}{rows:List Row}:(sp.tellM f g).callM f args rows=g args rows:=if_pos rfl
theorem z8k {f f':FuncId}{g:List AV→List Row→Option (Prop×AV×List Row)}{args:List AV}{rows:List Row}(h:(f'==f)=false):(sp.tellM f g).callM f' args rows=sp.callM f' args rows:=if_neg (by simpa using h)
theorem z3g {f f':FuncId}{g:List AV→List Row→Option (Prop×AV×List Row)}{args:List AV}:(sp.tellM f g).call f' args=sp.call f' args:=rfl
theorem z8l (h:SpecOk P sp w0 fp){f:FuncId}{g:List AV→List Row→Option (Prop×AV×List Row)}(he:za0 P f)
 (hc:∀args rows c r rs,g args rows=some (c,r,rs)→c→∀w,Fr fp w0 w→ConMAt P w (fun k=>fp k∨w0.heap.size≤k) f args rows r rs):SpecOk P (sp.tellM f g) w0 fp:=by
 refine⟨h.eqs,h.call,fun f' args rows c r rs hh=> ?_⟩;unfold Spec.tellM at hh;simp only at hh;split at hh
 · rename_i e;subst e;exact⟨he,hc args rows c r rs hh⟩
 · exact h.callM f' args rows c r rs hh
theorem znr {fq:Nat→Prop}{f:FuncId}{args args2:List AV}{rows rows2 rows':List Row}{r:AV}(h:ConMAt P w fq f args2 rows2 r rows')(hw:Weak args rows args2 rows2)(hv:∀K cs e,z00 rows K=.var cs e→∃cs' e',z00 rows2 K=.var cs' e'):ConMAt P w fq f args rows r rows':=by
 intro fp S I vs hfp hM hl hvv
 have hR:RelS w fp ⟨S,[]⟩ I args rows ⟨vs.toArray,[]⟩ w:=by
  refine⟨hM,rfl, ?_,fun i v hv=> ?_,fun i hi=> ?_⟩
  · simp[hl]
  · have hv:vs[i]? =some v:=by simpa using hv
    have hi:i<args.length:=by rw[hl];exact(List.getElem?_eq_some_iff.1 hv).1
    have:=hvv i _ v (List.getElem?_eq_getElem hi) hv;unfold envE;rw[List.getD_eq_getElem?_getD,List.getElem?_eq_getElem hi];exact this
  · unfold envE;rw[List.getD_eq_getElem?_getD,List.getElem?_eq_none hi];rfl
 have hR2:=hw.ok (S0:=⟨S,[]⟩) (fun p hp=>by cases hp) hR;have hl2:args2.length=vs.length:=by have:=(z6q hw.1).1;omega
 refine(h fp S (opnI I (z00 rows)) vs hfp hR2.mem hl2 (fun i x v hx hv=> ?_)).mono fun e w' ⟨v,I',h1,h2,h3,h4⟩=>⟨v,I',h1,h2,h3,fun K cs e hK=> ?_⟩
 · have:=hR2.env i v (by simpa using hv);unfold envE at this;rw[List.getD_eq_getElem?_getD,hx] at this;exact this
 · obtain⟨cs',e',hK2⟩:=hv K cs e hK;exact h4 K cs' e' hK2
end
end Go.Proofs.YtnlacmnoocigiaaGreatDoor.Aw
namespace Go.Proofs.YtnlacmnoocigiaaGreatDoor.Aw
abbrev awA :=And.intro @zv0<|And.intro @zn6<|And.intro @zl4<|And.intro @zl5<|And.intro @zrs<|And.intro @zna<|And.intro @zrt<|And.intro @znb<|And.intro @zv4<|And.intro @zv5<|And.intro @zru<|And.intro @zx4<|And.intro @zy4<|And.intro @zy5<|And.intro @zrv<|And.intro @zv6<|And.intro @zrw<|And.intro @zx5<|And.intro @zhr<|And.intro @zrl<|And.intro @zn5<|And.intro @zdw<|And.intro @zl3<|And.intro @zhs<|And.intro @znn<|And.intro @zla<|And.intro @zrx<|And.intro @zl8<|And.intro @zv7<|And.intro @zv8<|And.intro @znd<|And.intro @zrz<|And.intro @zdx<|And.intro @zv9<|And.intro @zdy<|And.intro @zva<|And.intro @zvb<|And.intro @zvc<|And.intro @zvd<|And.intro @zx6<|And.intro @zs0<|And.intro @zne<|And.intro @znf<|And.intro @zng<|And.intro @znh<|And.intro @zve<|And.intro @zvf<|And.intro @zvg<|And.intro @zni<|And.intro @znj<|And.intro @zs1<|And.intro @zy6<|And.intro @znk<|And.intro @zs2<|And.intro @zvh<|And.intro @zx7<|And.intro @znl<|And.intro @znm<|And.intro @zvi<|And.intro @zry<|And.intro @zhu<|And.intro @zrn<|And.intro @zn7<| @zv1
abbrev awB :=And.intro @zrk<|And.intro @true_and<|And.intro @and_true<|And.intro @List.getD_cons_zero.{0}<|And.intro @List.getD_cons_succ.{0}<|And.intro @List.set_cons_zero.{0}<|And.intro @List.set_cons_succ.{0}<|And.intro @List.length_nil.{0}<|And.intro @List.length_cons.{0}<|And.intro @List.nil_append.{0}<|And.intro @List.cons_append.{0}<|And.intro @List.append_nil.{0}<|And.intro @List.toList_toArray.{0}<|And.intro @List.drop_zero.{0}<|And.intro @List.drop_succ_cons.{0}<|And.intro @List.take_succ_cons.{0}<|And.intro @List.take_zero.{0}<|And.intro @List.length_map.{0,0}<|And.intro @Bool.false_eq_true<|And.intro @false_and<|And.intro @and_false<|And.intro @if_true.{1}<|And.intro @if_false.{1}<|And.intro @Option.map_some.{0,0}<|And.intro @Option.bind_some.{0,0}<|And.intro @zwx<|And.intro @z9y<|And.intro @Int.ofNat_lt<|And.intro @Int.ofNat_le<|And.intro @Int.natCast_nonneg<|And.intro @Int.toNat_natCast<|And.intro @decide_true<|And.intro @decide_false<|And.intro @Bool.not_true<|And.intro @Bool.not_false<|And.intro @Bool.or_true<|And.intro @Bool.true_or<|And.intro @Bool.or_false<|And.intro @Bool.false_or<|And.intro @Bool.and_true<|And.intro @Bool.true_and<|And.intro @Bool.and_false<|And.intro @Bool.false_and<|And.intro @beq_self_eq_true.{0}<|And.intro @bne_self_eq_false.{0}<|And.intro @List.getElem?_toArray.{0}<|And.intro @List.getElem?_cons_zero.{0}<|And.intro @List.getElem?_cons_succ.{0}<|And.intro @Option.some.injEq.{0}<|And.intro @AV.sc.injEq<|And.intro @Value.bool.injEq<|And.intro @Value.int.injEq<|And.intro @Value.string.injEq<|And.intro @List.map_cons.{0,0}<|And.intro @List.map_nil.{0,0}<|And.intro @Nat.le_refl<|And.intro @Nat.lt_irrefl<|And.intro @zy2<|And.intro @zy3<|And.intro @zrm<|And.intro @List.all_cons.{0}<|And.intro @List.all_nil.{0}<|And.intro @Option.isSome_some.{0}<|And.intro @List.mem_cons.{0}<|And.intro @List.mem_singleton.{0}<|And.intro @List.not_mem_nil.{0}<|And.intro @or_false<|And.intro @forall_eq.{1}<|And.intro @forall_eq_or_imp.{1}<|And.intro @List.length_set.{0}<|And.intro @ne_eq.{1}<|And.intro @not_false_eq_true<|And.intro @not_true_eq_false<|And.intro @List.size_toArray.{0}<|And.intro @zn4<| @zje
abbrev awC :=And.intro @zrq<|And.intro @zn8<|And.intro @zl6<|And.intro @zl7<|And.intro @zro<|And.intro @zx0<|And.intro @zv3<|And.intro @zx1<|And.intro @zx2<|And.intro @zx3<|And.intro @zn9<|And.intro @zrr<| @zht
abbrev awD :=And.intro @List.contains_cons.{0}<|And.intro @List.contains_nil.{0}<|And.intro @List.flatMap_cons.{0,0}<|And.intro @List.flatMap_nil.{0,0}<|And.intro @Option.isSome_none.{0}<|And.intro @Option.map_none.{0,0}<|And.intro @List.getElem?_nil.{0}<| @decide_eq_true_eq
end Go.Proofs.YtnlacmnoocigiaaGreatDoor.Aw
