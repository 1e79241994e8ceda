/- Abstract walks: operations one behind the other. -/
import Derived.Test.YtnlacmnoocigiaaGreatDoorAwOne
import Derived.Deep.LoopGhost
namespace Go.Proofs.YtnlacmnoocigiaaGreatDoor.Aw
open Go.RowKit
def envE (env:List AV):Nat→AV:=fun t=>env.getD t .dead
def setRow (rows:List Row)(k:Nat)(r:Row):List Row:=if k=rows.length then rows++[r] else rows.set k r
def putE (env:List AV)(d:Option Tmp)(v:AV):List AV:=
 match d with
 |some t=>env.set t v
 |none=>env
def opW (P:Program)(sp:Spec)(env:List AV)(rows:List Row)(o:Oper)(K:AV→List Row→Prop):Prop:=
 match o.op with
 |.store t p x=>z4u P (z00 rows) t (evA (envE env) p) (evA (envE env) x) fun k r=>k<rows.length∧K (.sc undef) (setRow rows k r)
 |.call c=>match c.callee with
  |.builtin .append=>match c.args.toList,c.argTypes.toList with
   |[s,x],[t,t']=>t=t'∧appW P rows.length (z00 rows) t (evA (envE env) s) (evA (envE env) x) fun v k r=>k≤rows.length∧K v (setRow rows k r)
   |_,_=>False
  |_=>qW P sp rows.length (evA (envE env)) (z00 rows) o fun v new=>K v (rows++new)
 |_=>qW P sp rows.length (evA (envE env)) (z00 rows) o fun v new=>K v (rows++new)
def opsW (P:Program)(sp:Spec)(ops:Array Oper):List Oper→List AV→List Row→(List AV→List Row→Prop)→Prop
 |[],env,rows,K=>K env rows
 |o::l,env,rows,K=>
  match o.guard with
  |none=>opW P sp env rows o fun v rows'=>opsW P sp ops l (putE env o.dst v) rows' K
  |some (j,want)=>match (ops[j]?).bind (·.dst) with
   |some t=>match envE env t with
    |.sc (.bool b)=>(b=want→opW P sp env rows o fun v rows'=>opsW P sp ops l (putE env o.dst v) rows' K)∧(¬b=want→opsW P sp ops l (putE env o.dst (.sc undef)) rows K)
    |.sc _=>opsW P sp ops l (putE env o.dst (.sc undef)) rows K
    |_=>False
   |none=>False
section
variable {P : Program} {sp : Spec} {w0 w w' : World} {fp : Nat → Prop} {S0 : Bs} {I I' : Itp} {H H' : Heap} {n nx : Nat} {E : Nat → AV} {a : Act} {env : List AV} {rows : List Row}
abbrev RelS (w0:World)(fp:Nat→Prop)(S0:Bs)(I:Itp)(env:List AV)(rows:List Row)(a:Act)(w:World):Prop:=Rel w0 fp S0 I env.length (envE env) (z00 rows) a w
theorem z8m (rows new:List Row):z00 (rows++new)=ins (z00 rows) rows.length new:=by
 funext K;unfold z00 ins;by_cases h:rows.length≤K∧K<rows.length+new.length
 · rw[if_pos h,List.getD_eq_getElem?_getD,List.getElem?_append_right h.1,List.getD_eq_getElem?_getD]
 · rw[if_neg h];by_cases h2:K<rows.length
   · rw[List.getD_eq_getElem?_getD,List.getElem?_append_left h2];exact(List.getD_eq_getElem?_getD ..).symm
   · rw[List.getD_eq_getElem?_getD,List.getElem?_eq_none (by simp;omega)];show _=rows.getD K .dead;rw[List.getD_eq_getElem?_getD,List.getElem?_eq_none (by omega)]
theorem z8n (rows:List Row)(k:Nat)(r:Row)(hk:k≤rows.length):z00 (setRow rows k r)=upd (z00 rows) k r:=by
 unfold setRow;by_cases h:k=rows.length
 · rw[if_pos h,z8m,zhq,h]
 · rw[if_neg h];funext K;unfold z00 upd;rw[List.getD_eq_getElem?_getD,List.getElem?_set];by_cases hK:K=k
   · rw[if_pos hK.symm,if_pos (by omega),if_pos hK];rfl
   · rw[if_neg (fun e=>hK e.symm),if_neg hK];exact(List.getD_eq_getElem?_getD ..).symm
theorem z2q (d:Option Tmp)(v:AV):(putE env d v).length=env.length:=by unfold putE;split<;>simp
theorem Rel.put (h:RelS w0 fp S0 I env rows a w){rows':List Row}{x:AV}{v:Value}(hm:Mem w0 fp S0 I' (z00 rows') w')(hv:VR I' (z00 rows') w' x v)(hk:∀y u,VR I (z00 rows) w y u→VR I' (z00 rows') w' y u)(d:Option Tmp):
 RelS w0 fp S0 I' (putE env d x) rows' (a.put d v) w':=by
 have hsz:(putE env d x).length=env.length:=z2q d x
 cases d with
 |none=>exact⟨hm,h.df,by rw[hsz];exact h.size,fun i u hu=>hk _ _ (h.env i u hu),h.out⟩
 |some t=>
  refine⟨hm,h.df, ?_,fun i u hu=> ?_,fun i hi=> ?_⟩
  · rw[hsz];show (a.tmps.setIfInBounds t v).size=_;rw[Array.size_setIfInBounds];exact h.size
  · have hu:(a.tmps.setIfInBounds t v)[i]? =some u:=hu;rw[Array.getElem?_setIfInBounds] at hu;show VR I' _ w' ((env.set t x).getD i .dead) u;rw[List.getD_eq_getElem?_getD,List.getElem?_set];by_cases hti:t=i
    · rw[if_pos hti] at hu⊢;split at hu
      · rename_i hlt;have hs:=h.size;have hlt2:t<env.length:=hs ▸ hlt;rw[if_pos hlt2];cases hu;exact hv
      · cases hu
    · rw[if_neg hti] at hu⊢;have:=hk _ _ (h.env i u hu);unfold envE at this;rw[List.getD_eq_getElem?_getD] at this;exact this
  · rw[hsz] at hi;have:=h.out i hi;show (env.set t x).getD i .dead=.dead;rw[List.getD_eq_getElem?_getD,List.getElem?_eq_none (by simpa using hi)];rfl
theorem zns {o:Oper}{K:AV→List Row→Prop}(h:opW P sp env rows o K):∃v r,K v r∧opW P sp env rows o fun v' r'=>v'=v∧r'=r:=by
 have q:(qW P sp rows.length (evA (envE env)) (z00 rows) o fun v new=>K v (rows++new))→∃v r,K v r∧qW P sp rows.length (evA (envE env)) (z00 rows) o fun v' new=>v'=v∧rows++new=r:=fun h=>by
  obtain⟨x,new,h1,h2⟩:=zmz h;refine⟨x,rows++new,h1, ?_⟩;have e:(fun v' new'=>v'=x∧rows++new'=rows++new)=(fun(v':AV) (new':List Row)=>v'=x∧new'=new):=by funext v' new';simp
  rw[e];exact h2
 unfold opW at*;split at h
 · obtain⟨k,r,⟨h1,h2⟩,h3⟩:=z9a h;refine⟨_,_,h2, ?_⟩;have:(fun k' r'=>k'=k∧r'=r)=(fun(k':Nat) (r':Row)=>k'=k∧r'=r):=rfl;unfold z4u at h3⊢;split at h3<;>try exact h3.elim
   · split at h3<;>try exact h3.elim
     obtain⟨l,⟨a1,a2,rfl,rfl⟩,a4⟩:=z3f h3;exact a4 _ ⟨a1,a2,h1,rfl,rfl⟩
   · split at h3<;>try exact h3.elim
     obtain⟨b1,b2,h3⟩:=h3;obtain⟨l,⟨a1,a2,a3,rfl,rfl⟩,a4⟩:=z3f h3;exact⟨b1,b2,a4 _ ⟨a1,a2,a3,h1,rfl,rfl⟩⟩
 · split at h
   · split at h<;>try exact h.elim
     obtain⟨h0,h⟩:=h;obtain⟨v,k,r,⟨h1,h2⟩,h3⟩:=zjd h;refine⟨_,_,h2,h0, ?_⟩;unfold appW at h3⊢;split at h3<;>try exact h3.elim
     obtain⟨l2,⟨c1,h3⟩,hn⟩:=zaz h3;split at h3<;>try exact h3.elim
     · obtain⟨d1,rfl,rfl,rfl⟩:=h3;exact hn _ ⟨c1,d1,h1,rfl,rfl⟩
     · split at h3<;>try exact h3.elim
       rename_i hK;obtain⟨d1,d2,d3,d4,rfl,rfl,rfl⟩:=h3;refine hn _ ⟨c1, ?_⟩;exact⟨d1,d2,d3,d4,h1,rfl,rfl⟩
   · exact q h
 · exact q h
theorem zjf (hsp:SpecOk P sp w0 fp){o:Oper}{v:AV}{r:List Row}(h:opW P sp env rows o fun v' r'=>v'=v∧r'=r)(hR:RelS w0 fp S0 I env rows a w){K:Act→World→Prop}{Q:Exit→Act→World→Prop}
 (hK:∀I' u w',RelS w0 fp S0 I' (putE env o.dst v) r (a.put o.dst u) w'→K (a.put o.dst u) w'):o.wp P a w K Q:=by
 have q:(qW P sp rows.length (evA (envE env)) (z00 rows) o fun v' new=>v'=v∧rows++new=r)→o.wp P a w K Q:=fun h=>by obtain⟨x,new,⟨rfl,rfl⟩,h2⟩:=zmz h;refine q_ok hsp h2 S0 I _ a w hR (fun k h1 _=>z30 (by omega)) K Q (fun u w' I' hv hm hk=> ?_);rw[←z8m] at hv hm hk;exact hK I' u w' (hR.put hm hv hk o.dst)
 unfold opW at h;split at h
 · rename_i t p x ho;obtain⟨k,rr,⟨h1,rfl,rfl⟩,h3⟩:=z9a h;obtain⟨w',q1,q2,q3⟩:=zfb (P:=P) hR.mem h3 (z2h hR p) (z2h hR x);unfold Oper.wp;have hrun:(execOp a.eval o).run P w=.ok .skip w':=by simp only[execOp,ho,Sem.run_bind,q1,Result.andThen_ok];rfl
   rw[hrun];rw[←z8n rows k rr (Nat.le_of_lt h1)] at q2 q3;exact hK I undef w' (hR.put q2 (.cl _ _ (.sc _)) q3 o.dst)
 · rename_i c ho;split at h
   · rename_i hc;split at h<;>try exact h.elim
     rename_i s x t t' hargs hty;obtain⟨rfl,h⟩:=h;obtain⟨v1,k,rr,⟨h1,rfl,rfl⟩,h3⟩:=zjd h;obtain⟨u,w',I',q1,q2,q3,q4⟩:=zuz (P:=P) (ty:=o.type) hR.mem h3 (z2h hR s) (z2h hR x) (fun _=>z30 (by omega));have e1:c.args= #[s,x]:=by rw[←Array.toArray_toList (xs:=c.args),hargs]
     have e2:c.argTypes= #[t,t]:=by rw[←Array.toArray_toList (xs:=c.argTypes),hty]
     unfold Oper.wp;have hrun:(execOp a.eval o).run P w=.ok (.value u) w':=by simp only[execOp,ho,resolve,hc,e1,e2,List.map_toArray,List.map_cons,List.map_nil,Sem.run_bind,Sem.run_pure,Result.andThen_ok,invoke,builtin,q1]
     rw[hrun];rw[←z8n rows k rr h1] at q2 q3 q4;exact hK I' u w' (hR.put q2 q3 q4 o.dst)
   · exact q h
 · exact q h
end
end Go.Proofs.YtnlacmnoocigiaaGreatDoor.Aw
namespace Go.Proofs.YtnlacmnoocigiaaGreatDoor.Aw
open Go.RowKit
def z19 (H:Heap):Nat→AV→Prop
 |0,.ptr K _=>H K≠.dead
 |f+1,.ptr K _=>match H K with
  |.var cs _=>∀x∈cs,z19 H f x
  |_=>False
 |_,.sl K _=>H K≠.dead
 |_,.lp K _ _ _=>H K≠.dead
 |f+1,.agg l=>∀x∈l,z19 H f x
 |f+1,.fn _ l=>∀x∈l,z19 H f x
 |_,_=>True
section
variable {P : Program} {sp : Spec} {w0 w w' : World} {fp : Nat → Prop} {S0 : Bs} {I I' : Itp} {H H' : Heap} {n nx : Nat} {E : Nat → AV} {a : Act} {env : List AV} {rows : List Row}
theorem z9c {l:List AV}{vs:List Value}(hl:l.length=vs.length)(h:∀(i:Nat) x v,l[i]? =some x→vs[i]? =some v→VR I H w x v){R:AV→Prop}(hR:∀x v,VR I H w x v→R x):∀x∈l,R x:=fun x hx=>by obtain⟨i,hi,hh⟩:=List.getElem_of_mem hx;exact hR x (vs[i]'(by omega)) (h i x _ (by rw[←hh];exact List.getElem?_eq_getElem hi) (List.getElem?_eq_getElem (by omega)))
theorem z4v (hm:Mem w0 fp S0 I H w):∀(f:Nat) (x:AV) (v:Value),VR I H w x v→z19 H f x
 |0,.ptr K off,v,h=>by obtain⟨-,cs,e,hK⟩:=h.ptr_inv;show H K≠.dead;rw[hK];exact fun h=>by cases h
 |f+1,.ptr K off,v,h=>by obtain⟨-,cs,e,hK⟩:=h.ptr_inv;have hr:=hm.rows K;rw[hK] at hr;obtain⟨vs,g1,g2,g3,g4⟩:=hr;unfold z19;simp only[hK];exact z9c g2 g4 (fun x v hv=>z4v hm f x v hv)
 |f,.sl K m,v,h=>by
  obtain⟨m',q1, -⟩:=h.sl_inv;have:H K≠.dead:=fun e=>by rw[e] at q1;cases q1
  cases f<;>exact this
 |f,.lp K m i j,v,h=>by
  obtain⟨m',q1, -⟩:=h.lp_inv;have:H K≠.dead:=fun e=>by rw[e] at q1;cases q1
  cases f<;>exact this
 |0,.agg l,v,h=>trivial
 |f+1,.agg l,v,h=>by obtain⟨vs,rfl,g1,g2,g3⟩:=h.agg_inv;exact z9c g1 g3 (fun x v hv=>z4v hm f x v hv)
 |0,.fn g l,v,h=>trivial
 |f+1,.fn g l,v,h=>by obtain⟨vs,rfl,g1,g3⟩:=h.fn_inv;exact z9c g1 g3 (fun x v hv=>z4v hm f x v hv)
 |f,.sc u,v,h=>by cases f<;>trivial
 |f,.tup u,v,h=>by cases f<;>trivial
 |f,.ro u,v,h=>by cases f<;>trivial
 |f,.rp u,v,h=>by cases f<;>trivial
 |f,.dead,v,h=>by cases f<;>trivial
def z4l (H H':Heap):Prop:=∀K,H K≠.dead→H' K≠.dead→H' K=H K
theorem zlb (hc:z4l H H'){x:AV}(ha:z19 H' 4 x)(h:oneP H x):oneP H' x:=by
 cases x<;>try exact h
 rename_i K n;have h:(H K).len=some n:=h;have:H' K=H K:=hc K (fun e=>by rw[e] at h;cases h) ha;show (H' K).len=some n;rw[this];exact h
theorem z4w (hc:z4l H H'){x:AV}(ha:z19 H' 4 x){K K':List AV→Prop}(h:z3r H x K)(hK:∀l,K l→K' l):z3r H' x K':=by
 unfold z3r at*;split at h
 · exact hK _ h
 · exact⟨zlb hc ha h.1,hK _ h.2⟩
theorem zfe (hc:z4l H H'){x:AV}(ha:z19 H' 4 x){K:List AV→Prop}(h:placeW H x K):placeW H' x K:=by
 unfold placeW at*;split at h<;>try exact h.elim
 · rename_i K' off;have hd:H K'≠.dead:=fun e=>by rw[e] at h;exact h
   have hd':H' K'≠.dead:=fun e=>by unfold z19 at ha;rw[e] at ha;exact ha
   rw[←hc K' hd hd'] at h;exact h
 · exact h
 · rename_i K' n i j;have hd:H K'≠.dead:=fun e=>by rw[e] at h;exact h
   rw[←hc K' hd ha] at h;exact h
theorem zab (hc:z4l H H'){s:TypeId}{f:Nat}{x:AV}(ha:z19 H' 4 x){K:AV→Prop}(h:z17 P H s f x K):z17 P H' s f x K:=by
 unfold z17 at*;split at h<;>try exact h.elim
 split at h<;>try exact h.elim
 · exact h
 · exact h
 · rename_i K' n i j;have hd:H K'≠.dead:=fun e=>by rw[e] at h;exact h
   rw[←hc K' hd ha] at h;exact h
theorem zac (hc:z4l H H'){t:TypeId}{x ix:AV}(ha:z19 H' 4 x){K:AV→Prop}(h:z18 P H t x ix K):z18 P H' t x ix K:=by
 unfold z18 at*;split at h<;>try exact h.elim
 split at h<;>try exact h.elim
 · split at h<;>try exact h.elim
   · exact h
   · rename_i K' n;have hd:H K'≠.dead:=fun e=>by rw[e] at h;exact h
     rw[←hc K' hd ha] at h;exact h
 · exact h
theorem zlc (hc:z4l H H'){t:TypeId}{x:AV}(ha:z19 H' 4 x){K:AV→Prop}(h:lenW P H t x K):lenW P H' t x K:=by
 unfold lenW at*;split at h<;>try exact h.elim
 · exact h
 · exact h
 · rename_i K' n;split at h<;>try exact h.elim
   have hd:H K'≠.dead:=fun e=>by rw[e] at h;cases h.1
   rw[←hc K' hd ha] at h;exact h
 · exact h
theorem zld (hc:z4l H H'){x:AV}(ha:z19 H' 4 x){K:AV→Prop}(h:nilW H x K):nilW H' x K:=by
 unfold nilW at*;split at h<;>try exact h.elim
 · exact h
 · exact h
 · rename_i K' n i j;have hd:H K'≠.dead:=fun e=>by rw[e] at h;exact h
   rw[←hc K' hd ha] at h;exact h
 · exact h
 · exact h
 · exact h
theorem z7v (hc:z4l H H'){plc:Nat→Option (Nat×Nat)}:∀{parts:List (Nat×AV)} {cells:List AV} {K K':List AV→Prop},(∀p∈parts,z19 H' 4 p.2)→z0i H plc cells parts K→(∀l,K l→K' l)→z0i H' plc cells parts K'
 |[],cells,K,K',ha,h,hK=>hK _ h
 |(i,x)::rest,cells,K,K',ha,h,hK=>by
  simp only[z0i] at h⊢;split at h<;>try exact h.elim
  exact z4w hc (ha (i,x) (by simp)) h (fun l hl=>⟨hl.1,hl.2.1,z7v hc (fun p hp=>ha p (by simp[hp])) hl.2.2 hK⟩)
theorem z5j {g g':AV→Option AV}:∀{l m:List AV},(∀x∈l,∀y,g x=some y→g' x=some y)→mapO g l=some m→mapO g' l=some m
 |[],m,h,hm=>hm
 |x::l,m,h,hm=>by
  simp only[mapO] at hm⊢;split at hm<;>try (cases hm;done)
  rename_i y m' hy hm';rw[h x (by simp) y hy,z5j (fun x hx=>h x (by simp[hx])) hm'];exact hm
theorem z5x (hc:z4l H H'):∀(f:Nat) (x y:AV),z19 H' f x→z5v H f x=some y→z5v H' f x=some y
 |f,.sc u,y,ha,h=>by cases f<;>exact h
 |f,.ro u,y,ha,h=>by cases f<;>exact h
 |f,.rp u,y,ha,h=>by cases f<;>exact h
 |f,.sl K n,y,ha,h=>by
  have hd':H' K≠.dead:=by cases f<;>exact ha
  have h2:(match H K with
   |.lst _ l _=>if l.length=n then some (AV.ro l) else none
   |.fro l=>if l.length=n then some (.ro l) else none
   |_=>none)=some y:=by cases f<;>exact h
  have hd:H K≠.dead:=fun e=>by rw[e] at h2;cases h2
  rw[←hc K hd hd'] at h2;clear h;cases f<;>exact h2
 |0,.ptr K off,y,ha,h=>by cases h
 |f+1,.ptr K off,y,ha,h=>by
  simp only[z5v] at h⊢;unfold z19 at ha;have hd:H K≠.dead:=fun e=>by rw[e] at h;cases h
  have hd':H' K≠.dead:=fun e=>by rw[e] at ha;exact ha
  have he:=hc K hd hd';rw[he] at ha⊢;split at h<;>try (cases h;done)
  rename_i cs e hK;rw[hK] at ha;simp only at ha;simp only[Option.map_eq_some_iff] at h⊢;obtain⟨m,hm,rfl⟩:=h;exact⟨m,z5j (fun x hx y hy=>z5x hc f x y (ha x (List.mem_of_mem_drop hx)) hy) hm,rfl⟩
 |0,.agg l,y,ha,h=>by cases h
 |f+1,.agg l,y,ha,h=>by simp only[z5v,Option.map_eq_some_iff] at h⊢;obtain⟨m,hm,rfl⟩:=h;exact⟨m,z5j (fun x hx y hy=>z5x hc f x y (ha x hx) hy) hm,rfl⟩
 |0,.fn g l,y,ha,h=>by cases h
 |f+1,.fn g l,y,ha,h=>by simp only[z5v,Option.map_eq_some_iff] at h⊢;obtain⟨m,hm,rfl⟩:=h;exact⟨m,z5j (fun x hx y hy=>z5x hc f x y (ha x hx) hy) hm,rfl⟩
 |f,.tup l,y,ha,h=>by cases f<;>cases h
 |f,.lp K n i j,y,ha,h=>by cases f<;>cases h
 |f,.dead,y,ha,h=>by cases f<;>cases h
theorem zhw (hc:z4l H H'){f:AV}{args:List AV}{K:AV→List Row→Prop}(hf:z19 H' 5 f)(ha:∀x∈args,z19 H' 4 x)(h:zax sp nx H f args K):zax sp nx H' f args K:=by
 have key:∀(g:FuncId) (cap:List AV),(∀x∈cap,z19 H' 4 x)→(match mapO (z0a 3) (args++cap) with
  |some l=>match sp.call g l with
   |some (c,r,rs)=>c∧K (z06 nx 3 r) (rs.map (z07 nx))
   |none=>False
  |none=>match mapO (z5v H 4) (args++cap) with
   |some l=>match sp.call g l with
    |some (c,r,rs)=>c∧z0q r=true∧K r []
    |none=>False
   |none=>False)→(match mapO (z0a 3) (args++cap) with
  |some l=>match sp.call g l with
   |some (c,r,rs)=>c∧K (z06 nx 3 r) (rs.map (z07 nx))
   |none=>False
  |none=>match mapO (z5v H' 4) (args++cap) with
   |some l=>match sp.call g l with
    |some (c,r,rs)=>c∧z0q r=true∧K r []
    |none=>False
   |none=>False):=by
  intro g cap hcap h;split at h
  · exact h
  · split at h<;>try exact h.elim
    rename_i l hl
    rw[z5j (g':=z5v H' 4) (fun x hx y hy=>z5x hc 4 x y (by
     rcases List.mem_append.1 hx with hx|hx
     · exact ha x hx
     · exact hcap x hx) hy) hl]
    exact h
 unfold zax callee at*;split at h<;>try exact h.elim
 · exact⟨h.1,h.2.1,key _ _ (fun x hx=>by simp at hx) h.2.2⟩
 · exact key _ _ hf h
theorem z7e (hc:z4l H H'){e e':Operand→AV}{op:Op}{K:AV→Prop}(he:∀x∈op.operands,e' x=e x)(ha:∀x∈op.operands,z19 H' 4 (e' x))(h:valW P sp H e op K):valW P sp H' e' op K:=by
 have hx:∀x∈op.operands,z19 H' 4 (e x):=fun x hx=>he x hx ▸ ha x hx;unfold valW at*;split at h<;>try exact h.elim
 all_goals simp only[Op.operands,Array.mem_def] at he hx
 · rw[he _ (by simp)];exact h
 · rw[he _ (by simp)];exact h
 · rw[he _ (by simp),he _ (by simp),he _ (by simp)];exact h
 · rw[he _ (by simp)];exact zfe hc (hx _ (by simp)) h
 · rw[he _ (by simp)];exact zab hc (hx _ (by simp)) h
 · rw[he _ (by simp),he _ (by simp)];exact zac hc (hx _ (by simp)) h
 · rw[he _ (by simp)];exact h
 · rw[he _ (by simp),he _ (by simp)];exact h
 · rw[he _ (by simp)];exact h
 · rw[he _ (by simp)];exact zld hc (hx _ (by simp)) h
 · rw[he _ (by simp)];exact h
 · rw[he _ (by simp),he _ (by simp)];exact h
 · rw[he _ (by simp)];exact h
 · rename_i t x lo hi mx;rw[he x (by simp)];have e1:lo.map e'=lo.map e:=by cases lo<;>simp_all
   have e2:hi.map e'=hi.map e:=by cases hi<;>simp_all
   rw[e1,e2];exact h
 · rename_i fn first cap
   have e1:cap.toList.map e'=cap.toList.map e:=List.map_congr_left fun x hx=>he x (by simp at hx⊢;exact .inr hx);rw[e1];exact h
 · rename_i c;split at h<;>try exact h.elim
   split at h<;>try exact h.elim
   rename_i hcal x t hargs hty;have hmem:x∈c.args.toList:=by rw[hargs];simp
   have hop:x∈c.operands.toList:=by simp only[Call.operands,Array.toList_append,List.mem_append];exact .inr hmem
   rw[he x hop];exact zlc hc (hx x hop) h
theorem ze0 (hc:z4l H H'){e e':Operand→AV}{o:Oper}{K:AV→List Row→Prop}(he:∀x∈o.op.operands,e' x=e x)(ha:∀f,∀x∈o.op.operands,z19 H' f (e' x))(h:qW P sp nx e H o K):qW P sp nx e' H' o K:=by
 have hx:∀f,∀x∈o.op.operands,z19 H' f (e x):=fun f x hx=>he x hx ▸ ha f x hx;unfold qW at*;split at h
 · exact h
 · rename_i t x ho;rw[ho] at he hx;simp only[Op.operands,Array.mem_def] at he hx;rw[he _ (by simp)];exact z4w hc (hx 4 _ (by simp)) h (fun l hl=>hl)
 · rename_i t parts ho;rw[ho] at he hx;simp only[Op.operands,Array.mem_def] at he hx;have e1:(parts.toList.map fun p=>(p.1,e' p.2))=parts.toList.map fun p=>(p.1,e p.2):=List.map_congr_left fun p hp=>by rw[he p.2 (by simp at hp⊢;exact⟨_,hp⟩)]
   rw[e1];unfold z7m at*;split at h<;>try exact h.elim
   exact z7v hc (fun p hp=>by simp only[List.mem_map] at hp;obtain⟨q,hq,rfl⟩:=hp;exact hx 4 q.2 (by simp at hq⊢;exact⟨_,hq⟩)) h (fun l hl=>hl)
 · rename_i t len parts ho;rw[ho] at he hx;simp only[Op.operands,Array.mem_def] at he hx;have e1:(parts.toList.map fun p=>(p.1,e' p.2))=parts.toList.map fun p=>(p.1,e p.2):=List.map_congr_left fun p hp=>by rw[he p.2 (by simp at hp⊢;exact⟨_,hp⟩)]
   rw[e1];split at h<;>try exact h.elim
   exact⟨h.1,h.2.1,z7v hc (fun p hp=>by simp only[List.mem_map] at hp;obtain⟨q,hq,rfl⟩:=hp;exact hx 4 q.2 (by simp at hq⊢;exact⟨_,hq⟩)) h.2.2 (fun l hl=>hl)⟩
 · rename_i c ho;split at h
   · rename_i f hcal;rw[ho] at he hx;simp only[Op.operands,Array.mem_def] at he hx;have hop:f∈c.operands.toList:=by simp only[Call.operands,hcal];simp
     have hoa:∀x∈c.args.toList,x∈c.operands.toList:=fun x hx=>by simp only[Call.operands,Array.toList_append,List.mem_append];exact .inr hx
     have e1:c.args.toList.map e'=c.args.toList.map e:=List.map_congr_left fun x hx=>he x (hoa x hx);rw[e1,he f hop];exact zhw hc (hx 5 f hop) (fun x h=>by obtain⟨y,hy,rfl⟩:=List.mem_map.1 h;exact hx 4 y (hoa y hy)) h
   · exact z7e hc he (fun x hx=>ha 4 x hx) h
 · exact z7e hc he (fun x hx=>ha 4 x hx) h
theorem zff (hc:z4l H H'){t:TypeId}{p x:AV}(hp:z19 H' 4 p)(hx:z19 H' 4 x){K:Nat→Row→Prop}(h:z4u P H t p x K):z4u P H' t p x K:=by
 unfold z4u at*;split at h<;>try exact h.elim
 · rename_i K' off;split at h<;>try exact h.elim
   rename_i cs e hK;have hd':H' K'≠.dead:=fun e=>by unfold z19 at hp;rw[e] at hp;exact hp
   have:=hc K' (fun e=>by rw[hK] at e;cases e) hd';rw[this,hK];exact z4w hc hx h (fun l hl=>hl)
 · rename_i K' n i j;split at h<;>try exact h.elim
   rename_i sz l e hK;have hd':H' K'≠.dead:=hp;have:=hc K' (fun e=>by rw[hK] at e;cases e) hd';rw[this,hK];exact⟨h.1,h.2.1,z4w hc hx h.2.2 (fun l hl=>hl)⟩
end
end Go.Proofs.YtnlacmnoocigiaaGreatDoor.Aw
namespace Go.Proofs.YtnlacmnoocigiaaGreatDoor.Aw
open Go.RowKit
def z32 (o:Oper):Bool:=
 match o.op with
 |.store .. =>false
 |.select .. =>false
 |.call c=>match c.callee with
  |.builtin .append=>false
  |_=>true
 |_=>true
def befs :List Oper→List Nat→List Nat
 |[],acc=>acc
 |o::l,acc=>befs l (acc++[o.after.toList.foldl (fun s e=>if Region.binds .any e then s|||2 ^ e.on|||acc.getD e.on 0 else s) 0])
def z7w (n:Nat)(f:Nat→Bool):Bool:=(List.range n).all f
def looksAt (ops:Array Oper)(o:Oper):List Tmp:=o.looksAt ops
def z6o (o:Oper):Bool:=
 match o.op with
 |.alloc .. |.box .. |.build .. |.buildSlice .. |.call .. |.store .. |.select .. =>false
 |_=>true
abbrev Fls :=List (Nat×List Nat)
def okMs (n:Nat):Nat→Fls→Bool
 |_,[]=>true
 |b,(m,_)::ms=>decide (b≤m) && decide (m<n) && okMs n (m+1) ms
def zjg (ms:Fls)(ops:Array Oper):Bool:=
 okMs ops.size 0 ms &&
 let n:=ops.size
 let B:=befs ops.toList []
 let bef (i j:Nat):Bool:=(B.getD j 0).testBit i
 let cut (b:Nat):Bool:=z7w n fun j=>decide (j<b)||z7w b fun i=>bef i j
 z7w n fun i=>match ops[i]? with
  |none=>false
  |some o=>
   (z32 o||((cut i||ms.any fun(m,ks)=>m==i && (match o.op with|.store .. =>true|_=>false) && o.dst==none && o.guard==none && z7w i fun k=>bef k i||(ks.contains k && match ops[k]? with
    |none=>false
    |some ok=>z6o ok && ok.guard==none && (looksAt ops ok).all fun t=>z7w n fun j=>(match ops[j]? with|none=>false|some oj=>oj.dst !=some t)||bef j k)) && cut (i+1))) &&
   (match o.op with|.select .. =>false|_=>true) &&
   o.after.all (fun e=> !Region.binds .any e||decide (e.on<i)) &&
   z7w n fun k=>k==i||match ops[k]? with
    |none=>false
    |some o'=>match o'.dst with
     |none=>true
     |some t=>o.dst !=some t && (!(looksAt ops o).contains t||bef k i||bef i k)
section
variable {ops : Array Oper}
theorem allLt_iff {n:Nat}{f:Nat→Bool}:z7w n f=true↔∀i,i<n→f i=true:=by unfold z7w;rw[List.all_eq_true];simp
def Bef (ops:Array Oper)(i j:Nat):Prop:=((befs ops.toList []).getD j 0).testBit i=true
def CutB (ops:Array Oper)(b:Nat):Prop:=∀i j,i<b→b≤j→j<ops.size→Bef ops i j
structure Fl (ms:Fls)(ops:Array Oper)(m:Nat)(o:Oper)(ks:List Nat):Prop where
 mem:(m,ks)∈ms
 op:∃t x y,o.op=.store t x y
 dst:o.dst=none
 guard:o.guard=none
 fl:∀k,k<m→¬Bef ops k m→k∈ks∧∃ok,ops[k]? =some ok∧z6o ok=true∧ok.guard=none∧∀t∈ok.looksAt ops,∀j o',ops[j]? =some o'→o'.dst=some t→Bef ops j k
structure DrawOk (ms:Fls)(ops:Array Oper):Prop where
 okms:okMs ops.size 0 ms=true
 cut:∀(m:Nat) (o:Oper),ops[m]? =some o→z32 o=false→(CutB ops m∨∃ks,Fl ms ops m o ks)∧CutB ops (m+1)
 sel:∀(m:Nat) (o:Oper) cs b,ops[m]? =some o→o.op≠.select cs b
 edge:∀(m:Nat) (o:Oper),ops[m]? =some o→∀e∈o.after,Region.binds .any e=true→e.on<m
 uniq:∀(i k:Nat) (o o':Oper) (t:Tmp),ops[i]? =some o→ops[k]? =some o'→i≠k→o'.dst=some t→o.dst≠some t
 look:∀(i k:Nat) (o o':Oper) (t:Tmp),ops[i]? =some o→ops[k]? =some o'→i≠k→o'.dst=some t→t∈o.looksAt ops→Bef ops k i∨Bef ops i k
theorem z8o {ms:Fls}(h:zjg ms ops=true):DrawOk ms ops:=by
 unfold zjg at h;rw[Bool.and_eq_true] at h;obtain⟨hms,h⟩:=h;simp only[allLt_iff] at h;have get:∀(m:Nat) (o:Oper),ops[m]? =some o→m<ops.size:=fun m o h=>(Array.getElem?_eq_some_iff.1 h).1;refine⟨hms,fun m o ho hq=> ?_,fun m o cs b ho he=> ?_,fun m o ho e he hb=> ?_,fun i k o o' t hi hk hne ht he=> ?_,fun i k o o' t hi hk hne ht hl=> ?_⟩
 · have:=h m (get m o ho);simp only[ho,hq,Bool.false_or,Bool.and_eq_true,allLt_iff] at this;obtain⟨⟨⟨⟨c1,c2⟩, -⟩, -⟩, -⟩:=this
   have cutOf:∀b,(∀j,j<ops.size→(decide (j<b)||z7w b fun i=>((befs ops.toList []).getD j 0).testBit i)=true)→CutB ops b:=fun b c i j hi hj hn=>by
    have:=c j hn;rw[Bool.or_eq_true,allLt_iff] at this;rcases this with h1|h1
    · have:=of_decide_eq_true h1;omega
    · exact h1 i hi
   refine⟨?_,cutOf _ c2⟩;rw[Bool.or_eq_true,allLt_iff] at c1;rcases c1 with c1|c1
   · exact .inl (cutOf _ c1)
   · right;rw[List.any_eq_true] at c1;obtain⟨⟨m',ks⟩,hmem,c1⟩:=c1;simp only[Bool.and_eq_true,beq_iff_eq,allLt_iff,Bool.or_eq_true] at c1;obtain⟨⟨⟨⟨rfl,c3⟩,c4⟩,c5⟩,c6⟩:=c1;refine⟨ks,hmem, ?_,c4,c5,fun k hk hb=> ?_⟩
     · split at c3
       · rename_i t x y hop;exact⟨t,x,y,hop⟩
       · cases c3
     · rcases c6 k hk with c7|⟨c7,c8⟩
       · exact absurd c7 hb
       · have hkn:k<ops.size:=Nat.lt_trans hk (get _ o ho);have hok:=Array.getElem?_eq_getElem hkn;rw[hok] at c8;simp only[Bool.and_eq_true,beq_iff_eq,List.all_eq_true,allLt_iff,Bool.or_eq_true] at c8;refine⟨by simpa using c7,_,hok,c8.1.1,c8.1.2,fun t ht j o' hj hd=> ?_⟩;have c9:=c8.2 t ht j (get j o' hj);rw[hj] at c9;simp only[hd] at c9;rcases c9 with c9|c9
         · simp at c9
         · exact c9
 · have:=h m (get m o ho);simp only[ho,he,Bool.and_false,Bool.false_and] at this;cases this
 · have:=h m (get m o ho);simp only[ho,Bool.and_eq_true] at this;obtain⟨⟨-,h1⟩, -⟩:=this;have h2:=Array.all_eq_true_iff_forall_mem.1 h1 e he;simpa [hb] using h2
 · have:=h i (get i o hi);simp only[hi,Bool.and_eq_true,allLt_iff] at this;have h2:=this.2 k (get k o' hk);simp only[hk,ht,Bool.or_eq_true,beq_iff_eq] at h2;rcases h2 with h2|h2
   · exact hne h2.symm
   · simp[he] at h2
 · have:=h i (get i o hi);simp only[hi,Bool.and_eq_true,allLt_iff] at this;have h2:=this.2 k (get k o' hk);simp only[hk,ht,Bool.or_eq_true,beq_iff_eq,Bool.and_eq_true] at h2;rcases h2 with h2|⟨-,h2⟩
   · exact absurd h2.symm hne
   · rcases h2 with (h2|h2)|h2
     · have:(looksAt ops o).contains t=true:=by unfold looksAt;simpa using hl
       rw[this] at h2;cases h2
     · exact .inl h2
     · exact .inr h2
def z6c (ops:Array Oper)(L:Nat→Prop):Prop:=∀(j:Nat) (o:Oper),ops[j]? =some o→L j→∀e∈o.after,Region.binds .any e=true→L e.on
theorem zfg {acc:List Nat}{i:Nat}:∀(es:List Edge) (s:Nat),(es.foldl (fun s e=>if Region.binds .any e then s|||2 ^ e.on|||acc.getD e.on 0 else s) s).testBit i=true→
 s.testBit i=true∨∃e∈es,Region.binds .any e=true∧(e.on=i∨(acc.getD e.on 0).testBit i=true)
 |[],s,h=>.inl h
 |e::es,s,h=>by
  rw[List.foldl_cons] at h;rcases zfg es _ h with h1|⟨e',h1,h2⟩
  · split at h1
    · rename_i hb;rw[Nat.testBit_or,Nat.testBit_or,Bool.or_eq_true,Bool.or_eq_true,Nat.testBit_two_pow] at h1;rcases h1 with (h1|h1)|h1
      · exact .inl h1
      · exact .inr ⟨e,by simp,hb,.inl (of_decide_eq_true h1)⟩
      · exact .inr ⟨e,by simp,hb,.inr h1⟩
    · exact .inl h1
  · exact .inr ⟨e',by simp[h1],h2⟩
theorem zcu {L:Nat→Prop}(hL:z6c ops L):∀(l pre:List Oper) (acc:List Nat),ops.toList=pre++l→acc.length=pre.length→
 (∀(j i:Nat) (o:Oper),ops[j]? =some o→j<acc.length→(acc.getD j 0).testBit i=true→(∀e∈o.after,Region.binds .any e=true→L e.on)→L i)→
 ∀(j i:Nat) (o:Oper),ops[j]? =some o→((befs l acc).getD j 0).testBit i=true→(∀e∈o.after,Region.binds .any e=true→L e.on)→L i
 |[],pre,acc,hp,hl,h,j,i,o,ho,hb,hd=>by
  have hj:j<acc.length:=by have:=(Array.getElem?_eq_some_iff.1 ho).1;rw[hl];have e1:=congrArg List.length hp;simp at e1;omega
  exact h j i o ho hj hb hd
 |x::l,pre,acc,hp,hl,h,j,i,o,ho,hb,hd=>by
  rw[befs] at hb;refine zcu hL l (pre++[x]) _ (by rw[hp];simp) (by simp[hl]) (fun j i o ho hj hb hd=> ?_) j i o ho hb hd;simp only[List.length_append,List.length_cons,List.length_nil] at hj;by_cases hj2:j<acc.length
  · rw[List.getD_eq_getElem?_getD,List.getElem?_append_left hj2,←List.getD_eq_getElem?_getD] at hb;exact h j i o ho hj2 hb hd
  · have hje:j=acc.length:=by omega
    subst hje;rw[List.getD_eq_getElem?_getD,List.getElem?_append_right (Nat.le_refl _),Nat.sub_self] at hb
    have hx:o=x:=by
     have e1:ops.toList[pre.length]? =some x:=by rw[hp];simp
     rw[←hl] at e1;have e2:ops[acc.length]? =some x:=by simpa using e1
     rw[ho] at e2;exact Option.some.inj e2
    subst hx;simp only[List.getElem?_cons_zero,Option.getD_some] at hb;rcases zfg _ _ hb with h1|⟨e,he,hbi,h1⟩
    · simp at h1
    · have hLe:=hd e (by simpa using he) hbi;rcases h1 with h1|h1
      · exact h1 ▸ hLe
      · have hlt:e.on<acc.length:=by apply Decidable.byContradiction;intro hn;rw[List.getD_eq_getElem?_getD,List.getElem?_eq_none (by omega)] at h1;simp at h1
        have hlt2:e.on<ops.size:=by have e1:=congrArg List.length hp;simp at e1;omega
        exact h e.on i _ (Array.getElem?_eq_getElem hlt2) hlt h1 (fun e' he' hb'=>hL e.on _ (Array.getElem?_eq_getElem hlt2) hLe e' he' hb')
theorem Bef.listed {L:Nat→Prop}(hL:z6c ops L){i j:Nat}{o:Oper}(ho:ops[j]? =some o)(h:Bef ops i j)(hd:∀e∈o.after,Region.binds .any e=true→L e.on):L i:=zcu hL ops.toList [] [] rfl rfl (fun j i o ho hj=>absurd hj (by simp)) j i o ho h hd
end
end Go.Proofs.YtnlacmnoocigiaaGreatDoor.Aw
namespace Go.Proofs.YtnlacmnoocigiaaGreatDoor.Aw
open Go.RowKit
abbrev StT :=List AV×List Row
def Wn (ops:Array Oper)(o:Oper)(E:Nat→AV)(b:Bool):Prop:=
 match o.guard with
 |none=>b=true
 |some (j,want)=>∃t u,(ops[j]?).bind (·.dst)=some t∧E t=.sc u∧b=(match u with|.bool c=>c==want|_=>false)
def z6h (P:Program)(sp:Spec)(ops:Array Oper)(i:Nat)(s s':StT):Prop:=∃o,ops[i]? =some o∧((Wn ops o (envE s.1) true∧∃v,opW P sp s.1 s.2 o (fun v' r'=>v'=v∧r'=s'.2)∧s'.1=putE s.1 o.dst v)∨(Wn ops o (envE s.1) false∧s'=(putE s.1 o.dst (.sc undef),s.2)))
section
variable {P : Program} {sp : Spec} {w0 w w' : World} {fp : Nat → Prop} {S0 : Bs} {I I' : Itp} {H H' : Heap} {n nx : Nat} {E E' : Nat → AV} {a : Act} {env : List AV} {rows : List Row} {ops : Array Oper}
theorem zb4 {o:Oper}{l:List Oper}{K:List AV→List Row→Prop}(h:opsW P sp ops (o::l) env rows K):
 ∃env' rows',opsW P sp ops l env' rows' K∧((Wn ops o (envE env) true∧∃v,opW P sp env rows o (fun v' r'=>v'=v∧r'=rows')∧env'=putE env o.dst v)∨(Wn ops o (envE env) false∧env'=putE env o.dst (.sc undef)∧rows'=rows)):=by
 rw[opsW] at h;split at h
 · rename_i hg;obtain⟨v,r,h1,h2⟩:=zns h;exact⟨_,_,h1,.inl ⟨by unfold Wn;rw[hg],v,h2,rfl⟩⟩
 · rename_i j want hg;split at h<;>try exact h.elim
   rename_i t ht;split at h<;>try exact h.elim
   · rename_i b hb;by_cases hbw:b=want
     · obtain⟨v,r,h1,h2⟩:=zns (h.1 hbw);refine⟨_,_,h1,.inl ⟨?_,v,h2,rfl⟩⟩;unfold Wn;rw[hg];exact⟨t,_,ht,hb,by simp[hbw]⟩
     · refine⟨_,_,h.2 hbw,.inr ⟨?_,rfl,rfl⟩⟩;unfold Wn;rw[hg];exact⟨t,_,ht,hb,by simp[hbw]⟩
   · rename_i u hnb hb;refine⟨_,_,h,.inr ⟨?_,rfl,rfl⟩⟩;unfold Wn;rw[hg];refine⟨t,u,ht,hb, ?_⟩
     cases u with
     |bool c=>exact absurd rfl (hnb c)
     |_=>rfl
theorem ze1 {K:List AV→List Row→Prop}:∀(l r:List Oper) (k:Nat) (env:List AV) (rows:List Row),ops.toList.drop k=l++r→opsW P sp ops l env rows K→
 ∃s:Nat→StT,s k=(env,rows)∧(∀i,k≤i→i<k+l.length→z6h P sp ops i (s i) (s (i+1)))∧K (s (k+l.length)).1 (s (k+l.length)).2
 |[],r,k,env,rows,hl,h=>⟨fun _=>(env,rows),rfl,fun i h1 h2=>by simp at h2;omega,h⟩
 |o::l,r,k,env,rows,hl,h=>by
  have hk:k<ops.size:=by have:=congrArg List.length hl;simp at this;omega
  have hd:=List.drop_eq_getElem_cons (l:=ops.toList) (i:=k) (by simpa using hk);rw[hl,List.cons_append] at hd;simp only[List.cons.injEq] at hd;obtain⟨ho,hl'⟩:=hd;have ho':ops[k]? =some o:=by rw[ho];simp[hk]
  obtain⟨env',rows',h1,h2⟩:=zb4 h;obtain⟨s,s1,s2,s3⟩:=ze1 l r (k+1) env' rows' hl'.symm h1;refine⟨fun i=>if i=k then(env,rows) else s i,if_pos rfl,fun i h3 h4=> ?_, ?_⟩
  · simp only[List.length_cons] at h4;by_cases hi:i=k
    · subst hi;simp only[if_pos,if_neg (show ¬i+1=i by omega)];rw[s1];refine⟨o,ho', ?_⟩;rcases h2 with ⟨a1,v,a2,a3⟩|⟨a1,a2,a3⟩
      · exact .inl ⟨a1,v,a2,a3⟩
      · exact .inr ⟨a1,by rw[a2,a3]⟩
    · simp only[if_neg hi,if_neg (show ¬i+1=k by omega)];exact s2 i (by omega) (by omega)
  · have e:k+(o::l).length=k+1+l.length:=by simp only[List.length_cons];omega
    rw[e];simp only[if_neg (show ¬k+1+l.length=k by omega)];exact s3
def rck (P:Program)(sp:Spec)(ops:Array Oper)(env:List AV)(rows:List Row):List Nat→Prop
 |[]=>True
 |k::ks=>(match ops[k]? with
  |some o=>(match o.dst with
   |some t=>valW P sp (z00 rows) (evA (envE env)) o.op (fun v=>v=envE env t)
   |none=>False)
  |none=>False)∧rck P sp ops env rows ks
theorem zvl {ks:List Nat}(h:rck P sp ops env rows ks){k:Nat}(hk:k∈ks){o:Oper}(ho:ops[k]? =some o):∃t,o.dst=some t∧valW P sp (z00 rows) (evA (envE env)) o.op (fun v=>v=envE env t):=by
 induction ks with
 |nil=>cases hk
 |cons k' ks ih=>
  rw[rck] at h;rcases List.mem_cons.1 hk with rfl|hk
  · have h1:=h.1;rw[ho] at h1;simp only at h1;split at h1<;>try exact h1.elim
    rename_i t ht;exact⟨t,ht,h1⟩
  · exact ih h.2 hk
def opsS (P:Program)(sp:Spec)(ops:Array Oper):Fls→Nat→List AV→List Row→(List AV→List Row→Prop)→Prop
 |[],b,env,rows,K=>opsW P sp ops (ops.toList.drop b) env rows K
 |(m,ks)::ms,b,env,rows,K=>opsW P sp ops ((ops.toList.drop b).take (m+1 - b)) env rows fun env' rows'=>rck P sp ops env' rows' ks∧opsS P sp ops ms (m+1) env' rows' K
theorem zfh {K:List AV→List Row→Prop}:∀(ms:Fls) (b:Nat) (env:List AV) (rows:List Row),b≤ops.size→okMs ops.size b ms=true→opsS P sp ops ms b env rows K→
 ∃s:Nat→StT,s b=(env,rows)∧(∀i,b≤i→i<ops.size→z6h P sp ops i (s i) (s (i+1)))∧K (s ops.size).1 (s ops.size).2∧∀m ks,(m,ks)∈ms→rck P sp ops (s (m+1)).1 (s (m+1)).2 ks
 |[],b,env,rows,hb,hm,h=>by
  obtain⟨s,s1,s2,s3⟩:=ze1 (ops.toList.drop b) [] b env rows (by simp) h;have e:b+(ops.toList.drop b).length=ops.size:=by simp;omega
  rw[e] at s2 s3;exact⟨s,s1,s2,s3,fun m ks h=>by cases h⟩
 |(m,ks)::ms,b,env,rows,hb,hm,h=>by
  rw[okMs,Bool.and_eq_true,Bool.and_eq_true,decide_eq_true_eq,decide_eq_true_eq] at hm;obtain⟨⟨m1,m2⟩,m3⟩:=hm;rw[opsS] at h;obtain⟨s,s1,s2,s3,s4⟩:=ze1 _ ((ops.toList.drop b).drop (m+1 - b)) b env rows (List.take_append_drop _ _).symm h;have e:b+((ops.toList.drop b).take (m+1 - b)).length=m+1:=by simp;omega
  rw[e] at s2 s3 s4;obtain⟨s',t1,t2,t3,t4⟩:=zfh ms (m+1) _ _ (by omega) m3 s4;refine⟨fun i=>if i<m+1 then s i else s' i,by simp only[if_pos (show b<m+1 by omega)];exact s1,fun i h1 h2=> ?_, ?_,fun m' ks' hmem=> ?_⟩
  · by_cases hi:i<m+1
    · simp only[if_pos hi];by_cases hi2:i+1<m+1
      · simp only[if_pos hi2];exact s2 i h1 hi
      · simp only[if_neg hi2];have:i+1=m+1:=by omega
        have h:=s2 i h1 hi;rw[this] at h⊢;rw[t1];exact h
    · simp only[if_neg hi,if_neg (show ¬i+1<m+1 by omega)];exact t2 i (by omega) h2
  · simp only[if_neg (show ¬ops.size<m+1 by omega)];exact t3
  · have key:∀m',m≤m'→(if m'+1<m+1 then s (m'+1) else s' (m'+1))=s' (m'+1):=fun m' h=>if_neg (by omega);rcases List.mem_cons.1 hmem with he|hmem
    · cases he;show rck P sp ops (if m+1<m+1 then s (m+1) else s' (m+1)).1 (if m+1<m+1 then s (m+1) else s' (m+1)).2 ks;rw[key m (Nat.le_refl _),t1];exact s3
    · have:m+1≤m':=by
       have gen:∀(ms:Fls) (b:Nat),okMs ops.size b ms=true→(m',ks')∈ms→b≤m':=by
        intro ms
        induction ms with
        |nil=>intro b _ h;cases h
        |cons x ms ih=>
         intro b hb h;obtain⟨x1,x2⟩:=x;rw[okMs,Bool.and_eq_true,Bool.and_eq_true,decide_eq_true_eq,decide_eq_true_eq] at hb;rcases List.mem_cons.1 h with h|h
         · cases h;exact hb.1.1
         · have:=ih _ hb.2 h;omega
       exact gen ms _ m3 hmem
      show rck P sp ops (if m'+1<m+1 then s (m'+1) else s' (m'+1)).1 (if m'+1<m+1 then s (m'+1) else s' (m'+1)).2 ks';rw[key m' (by omega)];exact t4 m' ks' hmem
theorem z2l {o:Oper}{b:Bool}(hR:Rel w0 fp S0 I n E H a w)(h:Wn ops o E b):Region.wanted o (yielded ops a.tmps)=b:=by
 unfold Wn at h;unfold Region.wanted;split at h
 · rename_i hg;rw[hg,h]
 · rename_i j want hg;obtain⟨t,u,h1,h2,h3⟩:=h;rw[hg];simp only;unfold yielded;rw[h1];simp only[Option.bind_some]
   cases hv:a.tmps[t]? with
   |none=>
    have hs:=hR.size;have:n≤t:=by rw[←hs];simpa using hv
    rw[hR.out t this] at h2;cases h2
   |some v=>have:=hR.env t v hv;rw[h2] at this;rw[this.sc_inv,h3];cases u<;>rfl
theorem Wn.congr {o:Oper}{b:Bool}(h:Wn ops o E b)(he:∀t∈o.looksAt ops,E' t=E t):Wn ops o E' b:=by
 unfold Wn at*;split at h
 · exact h
 · rename_i j want hg;obtain⟨t,u,h1,h2,h3⟩:=h;refine⟨t,u,h1, ?_,h3⟩;rw[he t ?_]
   · exact h2
   · unfold Oper.looksAt;simp[hg,h1]
theorem Rel.putF (h:Rel w0 fp S0 I n E H a w){x:AV}{v:Value}(hm:Mem w0 fp S0 I' H' w')(hv:VR I' H' w' x v)(hk:∀y u,VR I H w y u→VR I' H' w' y u)(d:Option Tmp)(hE:∀t,E' t=if d=some t∧t<n then x else E t):
 Rel w0 fp S0 I' n E' H' (a.put d v) w':=by
 cases d with
 |none=>
  have:E'=E:=funext fun t=>by rw[hE];simp
  rw[this];exact⟨hm,h.df,h.size,fun i u hu=>hk _ _ (h.env i u hu),h.out⟩
 |some t=>
  refine⟨hm,h.df, ?_,fun i u hu=> ?_,fun i hi=> ?_⟩
  · show (a.tmps.setIfInBounds t v).size=_;rw[Array.size_setIfInBounds];exact h.size
  · have hu:(a.tmps.setIfInBounds t v)[i]? =some u:=hu;rw[Array.getElem?_setIfInBounds] at hu;rw[hE];have hs:=h.size;by_cases hti:t=i
    · subst hti;rw[if_pos rfl] at hu;split at hu
      · rename_i hlt;rw[if_pos ⟨rfl,hs ▸ hlt⟩];cases hu;exact hv
      · cases hu
    · rw[if_neg hti] at hu;rw[if_neg (fun h=>hti (Option.some.inj h.1))];exact hk _ _ (h.env i u hu)
  · rw[hE,if_neg (fun h=>by have:=h.2;omega)];exact h.out i hi
theorem z44 (env:List AV)(d:Option Tmp)(x:AV)(t:Nat):envE (putE env d x) t=if d=some t∧t<env.length then x else envE env t:=by
 cases d with
 |none=>simp[putE]
 |some s=>
  unfold putE envE;simp only;rw[List.getD_eq_getElem?_getD,List.getElem?_set,List.getD_eq_getElem?_getD];by_cases h:s=t
  · subst h;by_cases h2:s<env.length
    · simp[h2]
    · simp[h2]
  · simp[h]
theorem zhx (hsp:SpecOk P sp w0 fp){K:List AV→List Row→Prop}{Q:Exit→Act→World→Prop}(hQ:∀I' env' rows' a' w',K env' rows'→env'.length=n→RelS w0 fp S0 I' env' rows' a' w'→Q .normal a' w'):∀(l:List Oper) (env:List AV) (rows:List Row) (I:Itp) (a:Act) (w:World),
 opsW P sp ops l env rows K→env.length=n→RelS w0 fp S0 I env rows a w→wpList P ops Q l a w
 |[],env,rows,I,a,w,h,hn,hR=>hQ I env rows a w h hn hR
 |o::l,env,rows,I,a,w,h,hn,hR=>by
  obtain⟨env',rows',h1,h2⟩:=zb4 h;refine wpList_step fun Kc hKc=> ?_;rcases h2 with ⟨a1,v,a2,rfl⟩|⟨a1,rfl,rfl⟩
  · rw[if_pos (z2l hR a1)];exact zjf hsp a2 hR (fun I' u w' hR'=>hKc _ _ (zhx hsp hQ l _ _ I' _ w' h1 (by rw[z2q];exact hn) hR'))
  · rw[if_neg (by rw[z2l hR a1];simp)];exact hKc _ _ (zhx hsp hQ l _ _ I _ w h1 (by rw[z2q];exact hn) (hR.put hR.mem (.cl _ _ (.sc _)) (fun y u hu=>hu) o.dst))
end
end Go.Proofs.YtnlacmnoocigiaaGreatDoor.Aw
namespace Go.Proofs.YtnlacmnoocigiaaGreatDoor.Aw
open Go.RowKit
def WrT (ops:Array Oper)(i:Nat)(t:Tmp):Prop:=∃o,ops[i]? =some o∧o.dst=some t
open Classical in
noncomputable def ES (ops:Array Oper)(s:Nat→StT)(p q:Nat)(L:Nat→Prop)(t:Nat):AV:=if ∃i,p≤i∧i<q∧L i∧WrT ops i t then envE (s q).1 t else envE (s p).1 t
open Classical in
noncomputable def HS (s:Nat→StT)(p q:Nat)(L:Nat→Prop)(K:Nat):Row:=if K<(s p).2.length then z00 (s p).2 K else if ∃i,p≤i∧i<q∧L i∧(s i).2.length≤K∧K<(s (i+1)).2.length then z00 (s q).2 K else .dead
def QSeg (P:Program)(sp:Spec)(ops:Array Oper)(s:Nat→StT)(p q:Nat):Prop:=
 ∀i,p≤i→i<q→∃o,ops[i]? =some o∧((Wn ops o (envE (s i).1) true∧∃v new,(qW P sp (s i).2.length (evA (envE (s i).1)) (z00 (s i).2) o fun v' new'=>v'=v∧new'=new)∧(s (i+1)).2=(s i).2++new∧(s (i+1)).1=putE (s i).1 o.dst v)∨
  (Wn ops o (envE (s i).1) false∧s (i+1)=(putE (s i).1 o.dst (.sc undef),(s i).2)))
section
variable {P : Program} {sp : Spec} {w0 w w' : World} {fp : Nat → Prop} {S0 : Bs} {I I' : Itp} {H H' : Heap} {n nx m p q : Nat} {E E' : Nat → AV} {a : Act} {env : List AV} {rows : List Row} {ops : Array Oper} {s : Nat → StT} {L : Nat → Prop}
theorem zle {i:Nat}{o:Oper}(ho:ops[i]? =some o)(hq:z32 o=true){st st':StT}(h:z6h P sp ops i st st'):
 ((Wn ops o (envE st.1) true∧∃v new,(qW P sp st.2.length (evA (envE st.1)) (z00 st.2) o fun v' new'=>v'=v∧new'=new)∧st'.2=st.2++new∧st'.1=putE st.1 o.dst v)∨(Wn ops o (envE st.1) false∧st'=(putE st.1 o.dst (.sc undef),st.2))):=by
 obtain⟨o',ho',h⟩:=h;rw[ho] at ho';cases ho';rcases h with ⟨h1,v,h2,h3⟩|h
 · refine .inl ⟨h1, ?_⟩
   have hqw:qW P sp st.2.length (evA (envE st.1)) (z00 st.2) o fun v' new=>v'=v∧st.2++new=st'.2:=by
    unfold opW at h2;unfold z32 at hq;split at h2
    · rename_i ho2;rw[ho2] at hq;cases hq
    · rename_i c ho2;rw[ho2] at hq;simp only at hq;split at h2
      · rename_i hc;rw[hc] at hq;cases hq
      · exact h2
    · exact h2
   obtain⟨x,new,⟨rfl,h4⟩,h5⟩:=zmz hqw;exact⟨x,new,h5,h4.symm,h3⟩
 · exact .inr h
theorem znt (hs:QSeg P sp ops s p q){t:Tmp}:∀(d i:Nat),p≤i→i+d≤q→(∀k,i≤k→k<i+d→¬WrT ops k t)→envE (s (i+d)).1 t=envE (s i).1 t
 |0,i,h1,h2,h3=>rfl
 |d+1,i,h1,h2,h3=>by
  rw[←znt hs d i h1 (by omega) (fun k h4 h5=>h3 k h4 (by omega))];obtain⟨o,ho,h⟩:=hs (i+d) (by omega) (by omega);have hne:¬o.dst=some t:=fun e=>h3 (i+d) (by omega) (by omega) ⟨o,ho,e⟩;rw[show i+(d+1)=i+d+1 from rfl];rcases h with ⟨-,v,new, -, -,h⟩|⟨-,h⟩
  · rw[h,z44,if_neg (fun h=>hne h.1)]
  · rw[h,z44,if_neg (fun h=>hne h.1)]
theorem z3q (hs:QSeg P sp ops s p q){t:Tmp}{i j:Nat}(h1:p≤i)(h2:i≤j)(h3:j≤q)(h4:∀k,i≤k→k<j→¬WrT ops k t):envE (s j).1 t=envE (s i).1 t:=by obtain⟨d,rfl⟩:∃d,j=i+d:=⟨j - i,by omega⟩;exact znt hs d i h1 h3 h4
theorem zjh (hs:QSeg P sp ops s p q):∀(d i:Nat),p≤i→i+d≤q→∃ext,(s (i+d)).2=(s i).2++ext
 |0,i,h1,h2=>⟨[],by simp⟩
 |d+1,i,h1,h2=>by
  obtain⟨ext,he⟩:=zjh hs d i h1 (by omega);obtain⟨o,ho,h⟩:=hs (i+d) (by omega) (by omega);rw[show i+(d+1)=i+d+1 from rfl];rcases h with ⟨-,v,new, -,h, -⟩|⟨-,h⟩
  · exact⟨ext++new,by rw[h,he,List.append_assoc]⟩
  · exact⟨ext,by rw[h,he]⟩
theorem zfi (hs:QSeg P sp ops s p q){i j:Nat}(h1:p≤i)(h2:i≤j)(h3:j≤q):∃ext,(s j).2=(s i).2++ext:=by obtain⟨d,rfl⟩:∃d,j=i+d:=⟨j - i,by omega⟩;exact zjh hs d i h1 h3
theorem zs4 (hs:QSeg P sp ops s p q){i j:Nat}(h1:p≤i)(h2:i≤j)(h3:j≤q):(s i).2.length≤(s j).2.length:=by obtain⟨ext,he⟩:=zfi hs h1 h2 h3;rw[he,List.length_append];omega
theorem ze2 (hs:QSeg P sp ops s p q){i j K:Nat}(h1:p≤i)(h2:i≤j)(h3:j≤q)(hK:K<(s i).2.length):z00 (s j).2 K=z00 (s i).2 K:=by obtain⟨ext,he⟩:=zfi hs h1 h2 h3;rw[he,z8m];unfold ins;rw[if_neg (by omega)]
theorem zs5 (hs:QSeg P sp ops s p q)(hpq:p≤q){K:Nat}(h1:(s p).2.length≤K)(h2:K<(s q).2.length):∃i,p≤i∧i<q∧(s i).2.length≤K∧K<(s (i+1)).2.length:=by
 have key:∀d,p+d≤q→K<(s (p+d)).2.length→∃i,p≤i∧i<q∧(s i).2.length≤K∧K<(s (i+1)).2.length:=by
  intro d
  induction d with
  |zero=>intro _ h;rw[Nat.add_zero] at h;omega
  |succ d ih=>
   intro hd h;by_cases hlt:K<(s (p+d)).2.length
   · exact ih (by omega) hlt
   · exact⟨p+d,by omega,by omega,by omega,h⟩
 exact key (q - p) (by omega) (by rw[show p+(q - p)=q from by omega];exact h2)
theorem Bef.lt {ms:Fls}(hd:DrawOk ms ops){i j:Nat}(hj:j<ops.size)(h:Bef ops i j):i<j:=by refine h.listed (L:=(· <j)) (fun k o hk hkj e he hb=> ?_) (Array.getElem?_eq_getElem hj) (fun e he hb=>hd.edge j _ (Array.getElem?_eq_getElem hj) e he hb);have:=hd.edge k o hk e he hb;show e.on<j;have hkj:k<j:=hkj;omega
theorem zb6 {ms:Fls}(hd:DrawOk ms ops)(hs:QSeg P sp ops s p q)(hqn:q≤ops.size)(hL:z6c ops L){i:Nat}{o:Oper}(ho:ops[i]? =some o)(hp:p≤i)(hq:i≤q)(hni:¬L i)(hdep:∀e∈o.after,Region.binds .any e=true→L e.on)
 {t:Tmp} (ht:t∈o.looksAt ops):ES ops s p q L t=envE (s i).1 t:=by
 have huniq:∀k k',WrT ops k t→WrT ops k' t→k=k':=fun k k' ⟨o1,h1,h2⟩ ⟨o2,h3,h4⟩=>by apply Decidable.byContradiction;intro hne;exact hd.uniq k k' o1 o2 t h1 h3 hne h4 h2
 unfold ES;by_cases hw:∃k,p≤k∧k<q∧WrT ops k t
 · obtain⟨k,hk1,hk2,hk⟩:=hw;by_cases hki:k=i
   · subst hki;rw[if_neg (fun⟨k',h1,h2,h3,h4⟩=>hni (huniq k' k h4 hk ▸ h3))];exact(z3q hs (Nat.le_refl _) hp (by omega) (fun k' h1 h2 h3=>by have:=huniq k' k h3 hk;omega)).symm
   · obtain⟨ok,hok,hkd⟩:=hk;rcases hd.look i k o ok t ho hok (fun e=>hki e.symm) hkd ht with hb|hb
     · have hLk:=hb.listed hL ho hdep;have hlt:=hb.lt hd (Array.getElem?_eq_some_iff.1 ho).1;rw[if_pos ⟨k,hk1,hk2,hLk,ok,hok,hkd⟩];rw[z3q (j:=q) hs (i:=k+1) (by omega) (by omega) (Nat.le_refl _) (fun k' h1 h2 h3=>by have:=huniq k' k h3 ⟨ok,hok,hkd⟩;omega)];exact(z3q hs (i:=k+1) (by omega) (by omega) (by omega) (fun k' h1 h2 h3=>by have:=huniq k' k h3 ⟨ok,hok,hkd⟩;omega)).symm
     · have hnk:¬L k:=fun h=>hni (hb.listed hL hok (fun e he hb=>hL k ok hok h e he hb));have hlt:=hb.lt hd (Array.getElem?_eq_some_iff.1 hok).1;rw[if_neg (fun⟨k',h1,h2,h3,h4⟩=>hnk (huniq k' k h4 ⟨ok,hok,hkd⟩ ▸ h3))];exact(z3q hs (Nat.le_refl _) hp (by omega) (fun k' h1 h2 h3=>by have:=huniq k' k h3 ⟨ok,hok,hkd⟩;omega)).symm
 · rw[if_neg (fun⟨k',h1,h2,h3,h4⟩=>hw ⟨k',h1,h2,h4⟩)];exact(z3q hs (Nat.le_refl _) hp (by omega) (fun k' h1 h2 h3=>hw ⟨k',h1,by omega,h3⟩)).symm
theorem zb7 (hs:QSeg P sp ops s p q){i:Nat}(hp:p≤i)(hq:i≤q):z4l (z00 (s i).2) (HS s p q L):=by
 intro K h1 h2;unfold HS at*;by_cases hK:K<(s p).2.length
 · rw[if_pos hK];exact(ze2 hs (Nat.le_refl _) hp hq hK).symm
 · rw[if_neg hK] at h2⊢;split at h2
   · rename_i hex;rw[if_pos hex];have:K<(s i).2.length:=by apply Decidable.byContradiction;intro hn;exact h1 (z30 hn)
     exact ze2 hs hp hq (Nat.le_refl _) this
   · exact absurd rfl h2
theorem zvm (hs:QSeg P sp ops s p q){i K:Nat}(hp:p≤i)(hq:i<q)(hni:¬L i)(h1:(s i).2.length≤K)(h2:K<(s (i+1)).2.length):HS s p q L K=.dead:=by
 unfold HS;have h3:=zs4 hs (Nat.le_refl _) hp (Nat.le_of_lt hq);rw[if_neg (by omega),if_neg];rintro⟨k,hk1,hk2,hk3,hk4,hk5⟩;rcases Nat.lt_trichotomy k i with h|h|h
 · have:=zs4 hs (i:=k+1) (j:=i) (by omega) (by omega) (by omega);omega
 · subst h;exact hni hk3
 · have:=zs4 hs (i:=i+1) (j:=k) (by omega) (by omega) (by omega);omega
theorem znu {ms:Fls}(hd:DrawOk ms ops)(hs:QSeg P sp ops s p q){i:Nat}{o:Oper}(ho:ops[i]? =some o)(hp:p≤i)(hq:i<q)(hni:¬L i){x:AV}(hx:(s (i+1)).1=putE (s i).1 o.dst x){L':Nat→Prop}(hL':∀k,L' k↔L k∨k=i)(hn:(s i).1.length=n)(t:Nat):
 ES ops s p q L' t=if o.dst=some t∧t<n then x else ES ops s p q L t:=by
 have huniq:∀k k',WrT ops k t→WrT ops k' t→k=k':=fun k k' ⟨o1,h1,h2⟩ ⟨o2,h3,h4⟩=>by apply Decidable.byContradiction;intro hne;exact hd.uniq k k' o1 o2 t h1 h3 hne h4 h2
 unfold ES;by_cases hdt:o.dst=some t
 · have hw:WrT ops i t:=⟨o,ho,hdt⟩;rw[if_pos ⟨i,hp,hq,(hL' i).2 (.inr rfl),hw⟩];rw[if_neg (show ¬∃k,p≤k∧k<q∧L k∧WrT ops k t from fun⟨k,h1,h2,h3,h4⟩=>hni (huniq k i h4 hw ▸ h3))];rw[z3q (j:=q) hs (i:=i+1) (by omega) (by omega) (Nat.le_refl _) (fun k' h1 h2 h3=>by have:=huniq k' i h3 hw;omega),hx,z44,hn];split
   · rfl
   · exact z3q hs (Nat.le_refl _) hp (by omega) (fun k' h1 h2 h3=>by have:=huniq k' i h3 hw;omega)
 · refine Eq.trans ?_ (if_neg (fun h=>hdt h.1)).symm
   have:(∃k,p≤k∧k<q∧L' k∧WrT ops k t)↔∃k,p≤k∧k<q∧L k∧WrT ops k t:=by
    constructor
    · rintro⟨k,h1,h2,h3,h4⟩;rcases (hL' k).1 h3 with h3|rfl
      · exact⟨k,h1,h2,h3,h4⟩
      · obtain⟨o',ho',hd'⟩:=h4;rw[ho] at ho';cases ho';exact absurd hd' hdt
    · rintro⟨k,h1,h2,h3,h4⟩;exact⟨k,h1,h2,(hL' k).2 (.inl h3),h4⟩
   by_cases hex:∃k,p≤k∧k<q∧L k∧WrT ops k t
   · rw[if_pos hex,if_pos (this.2 hex)]
   · rw[if_neg hex,if_neg (fun h=>hex (this.1 h))]
theorem znv (hs:QSeg P sp ops s p q){i:Nat}(hp:p≤i)(hq:i<q){new:List Row}(hr:(s (i+1)).2=(s i).2++new){L':Nat→Prop}(hL':∀k,L' k↔L k∨k=i):
 HS s p q L'=ins (HS s p q L) (s i).2.length new:=by
 funext K;have hc:(s (i+1)).2.length=(s i).2.length+new.length:=by rw[hr,List.length_append]
 have h3:=zs4 hs (Nat.le_refl _) hp (Nat.le_of_lt hq);by_cases hin:(s i).2.length≤K∧K<(s i).2.length+new.length
 · have h1:ins (HS s p q L) (s i).2.length new K=z00 (s (i+1)).2 K:=by rw[hr,z8m];unfold ins;rw[if_pos hin,if_pos hin]
   rw[h1];unfold HS;rw[if_neg (by omega),if_pos ⟨i,hp,hq,(hL' i).2 (.inr rfl),hin.1,by omega⟩];exact ze2 hs (i:=i+1) (by omega) (by omega) (Nat.le_refl _) (by omega)
 · have h1:ins (HS s p q L) (s i).2.length new K=HS s p q L K:=by unfold ins;rw[if_neg hin]
   rw[h1];unfold HS;by_cases hK:K<(s p).2.length
   · rw[if_pos hK,if_pos hK]
   · rw[if_neg hK,if_neg hK]
     have:(∃k,p≤k∧k<q∧L' k∧(s k).2.length≤K∧K<(s (k+1)).2.length)↔∃k,p≤k∧k<q∧L k∧(s k).2.length≤K∧K<(s (k+1)).2.length:=by
      constructor
      · rintro⟨k,h1,h2,h3,h4,h5⟩;rcases (hL' k).1 h3 with h3|rfl
        · exact⟨k,h1,h2,h3,h4,h5⟩
        · exact absurd ⟨h4,by omega⟩ hin
      · rintro⟨k,h1,h2,h3,h4,h5⟩;exact⟨k,h1,h2,(hL' k).2 (.inl h3),h4,h5⟩
     by_cases hex:∃k,p≤k∧k<q∧L k∧(s k).2.length≤K∧K<(s (k+1)).2.length
     · rw[if_pos hex,if_pos (this.2 hex)]
     · rw[if_neg hex,if_neg (fun h=>hex (this.1 h))]
theorem zvn (hs:QSeg P sp ops s p q)(hpq:p≤q)(h:∀i,p≤i→i<q→L i):ES ops s p q L=envE (s q).1:=by
 funext t;unfold ES;split
 · rfl
 · rename_i hn;exact(z3q hs (Nat.le_refl _) hpq (Nat.le_refl _) (fun k h1 h2 h3=>hn ⟨k,h1,h2,h k h1 h2,h3⟩)).symm
theorem zvo (hs:QSeg P sp ops s p q)(hpq:p≤q)(h:∀i,p≤i→i<q→L i):HS s p q L=z00 (s q).2:=by
 funext K;unfold HS;split
 · rename_i hK;exact(ze2 hs (Nat.le_refl _) hpq (Nat.le_refl _) hK).symm
 · rename_i hK;split
   · rfl
   · rename_i hn;by_cases hq:K<(s q).2.length
     · obtain⟨i,h1,h2,h3,h4⟩:=zs5 hs hpq (by omega) hq;exact absurd ⟨i,h1,h2,h i h1 h2,h3,h4⟩ hn
     · exact(z30 hq).symm
theorem zb8 (h:∀i,p≤i→i<q→¬L i):ES ops s p q L=envE (s p).1:=by funext t;unfold ES;rw[if_neg (fun⟨i,h1,h2,h3,_⟩=>h i h1 h2 h3)]
theorem ze3 (h:∀i,p≤i→i<q→¬L i):HS s p q L=z00 (s p).2:=by
 funext K;unfold HS;split
 · rfl
 · rename_i hK;rw[if_neg (fun⟨i,h1,h2,h3,_⟩=>h i h1 h2 h3)];exact(z30 hK).symm
end
end Go.Proofs.YtnlacmnoocigiaaGreatDoor.Aw
namespace Go.Proofs.YtnlacmnoocigiaaGreatDoor.Aw
open Go.RowKit
abbrev LB (listed:Array Bool):Nat→Prop:=fun i=>listed.getD i false=true
structure FlAt (P:Program)(sp:Spec)(ops:Array Oper)(s:Nat→StT)(q k:Nat)(r:Row):Prop where
 lt:q<ops.size
 cut:CutB ops (q+1)
 st:∃o t x y,ops[q]? =some o∧o.op=.store t x y∧o.dst=none∧o.guard=none∧z4u P (z00 (s q).2) t (evA (envE (s q).1) x) (evA (envE (s q).1) y) (fun k' r'=>k'=k∧r'=r)
 lek:k<(s q).2.length
 nx:s (q+1)=((s q).1,setRow (s q).2 k r)
 fl:∀i,i<q→¬Bef ops i q→∃o,ops[i]? =some o∧z6o o=true∧o.guard=none∧(∀t∈o.looksAt ops,∀j o',ops[j]? =some o'→o'.dst=some t→Bef ops j i)∧∃t,o.dst=some t∧valW P sp (z00 (s (q+1)).2) (evA (envE (s (q+1)).1)) o.op (fun v=>v=envE (s (q+1)).1 t)
def cntU (n:Nat)(listed:Array Bool):Nat:=((List.range n).filter fun i=> !listed.getD i true).length
section
variable {P : Program} {sp : Spec} {w0 w w' : World} {fp : Nat → Prop} {S0 : Bs} {I I' : Itp} {H H' : Heap} {n nx m p q : Nat} {E E' : Nat → AV} {a : Act} {env : List AV} {rows : List Row} {ops : Array Oper} {s : Nat → StT} {L : Nat → Prop} {Q : Exit → Act → World → Prop}
theorem z7x {p1 p2:Nat→Bool}:∀(l:List Nat) (i:Nat),(∀x∈l,p2 x=true→p1 x=true)→i∈l→p1 i=true→p2 i=false→(l.filter p2).length<(l.filter p1).length
 |[],i,h,hi,h1,h2=>by cases hi
 |x::l,i,h,hi,h1,h2=>by
  have hle:(l.filter p2).length≤(l.filter p1).length:=by
   have gen:∀l:List Nat,(∀x∈l,p2 x=true→p1 x=true)→(l.filter p2).length≤(l.filter p1).length:=by
    intro l
    induction l with
    |nil=>intro _;exact Nat.le_refl _
    |cons y l ih=>
     intro hh;have:=ih (fun x hx=>hh x (by simp[hx]));rw[List.filter_cons,List.filter_cons];by_cases h2:p2 y=true
     · rw[if_pos h2,if_pos (hh y (by simp) h2)];simp only[List.length_cons];omega
     · rw[if_neg h2];split
       · simp only[List.length_cons];omega
       · exact this
   exact gen l (fun x hx=>h x (by simp[hx]))
  rw[List.filter_cons,List.filter_cons];rcases List.mem_cons.1 hi with rfl|hi
  · rw[if_neg (by simp[h2]),if_pos h1];simp only[List.length_cons];omega
  · have:=z7x l i (fun x hx=>h x (by simp[hx])) hi h1 h2;by_cases h3:p2 x=true
    · rw[if_pos h3,if_pos (h x (by simp) h3)];simp only[List.length_cons];omega
    · rw[if_neg h3];split
      · simp only[List.length_cons];omega
      · exact this
theorem z1m {listed:Array Bool}{i:Nat}(hi:i<listed.size):listed.getD i true=false↔¬LB listed i:=by show _↔¬listed.getD i false=true;simp[hi]
theorem zfj (hsp:SpecOk P sp w0 fp){ms:Fls}(hd:DrawOk ms ops)(hs:QSeg P sp ops s p q)(hqn:q≤ops.size)(hlen:∀i,i≤ops.size→(s i).1.length=n)(hL:z6c ops L){i:Nat}(hp:p≤i)(hq:i<q)(hni:¬L i)(hdep:∀o,ops[i]? =some o→∀e∈o.after,Region.binds .any e=true→L e.on)
 (hR:Rel w0 fp S0 I n (ES ops s p q L) (HS s p q L) a w) {L':Nat→Prop} (hL':∀k,L' k↔L k∨k=i) {K:Act→World→Prop} (hK:∀I' a' w',Rel w0 fp S0 I' n (ES ops s p q L') (HS s p q L') a' w'→K a' w'):wpOp P ops Q i K a w:=by
 obtain⟨o,ho,h⟩:=hs i hp hq;have hlook:∀t∈o.looksAt ops,ES ops s p q L t=envE (s i).1 t:=fun t ht=>zb6 hd hs hqn hL ho hp (Nat.le_of_lt hq) hni (hdep o ho) ht;unfold wpOp;rw[ho];simp only;rcases h with ⟨hw,v,new,h1,h2,h3⟩|⟨hw,h1⟩
 · have hw':=z2l hR (hw.congr hlook);rw[if_pos hw'];left
   have hops:∀x∈o.op.operands,evA (ES ops s p q L) x=evA (envE (s i).1) x:=fun x hx=>by
    cases x with
    |tmp t=>exact hlook t (by unfold Oper.looksAt;exact List.mem_append_left _ (List.mem_filterMap.2 ⟨.tmp t,by simpa using hx,rfl⟩))
    |_=>rfl
   have hqw:=ze0 (zb7 (L:=L) hs hp (Nat.le_of_lt hq)) hops (fun f x hx=>z4v hR.mem f _ _ (z2h hR x)) h1;have hc:(s (i+1)).2.length=(s i).2.length+new.length:=by rw[h2,List.length_append]
   refine q_ok hsp hqw S0 I n a w hR (fun k k1 k2=>zvm hs hp hq hni k1 (by omega)) K Q (fun u w' I' hv hm hk=> ?_);rw[←znv hs hp hq h2 hL'] at hv hm hk;exact hK I' _ w' (hR.putF hm hv hk o.dst (fun t=>znu hd hs ho hp hq hni h3 hL' (hlen i (by omega)) t))
 · have hw':=z2l hR (hw.congr hlook);rw[if_neg (by rw[hw'];simp)];have e1:(s (i+1)).1=putE (s i).1 o.dst (.sc undef):=by rw[h1]
   have e2:(s (i+1)).2=(s i).2++[]:=by rw[h1,List.append_nil]
   have hh:HS s p q L'=HS s p q L:=by rw[znv hs hp hq e2 hL',z98]
   refine hK I _ w ?_;rw[hh];exact hR.putF hR.mem (.cl _ _ (.sc _)) (fun y u hu=>hu) o.dst (fun t=>znu hd hs ho hp hq hni e1 hL' (hlen i (by omega)) t)
theorem zs6 {L':Nat→Prop}(h:∀k,p≤k→k<q→(L' k↔L k)):ES ops s p q L'=ES ops s p q L:=by
 have:∀t,(∃k,p≤k∧k<q∧L' k∧WrT ops k t)↔∃k,p≤k∧k<q∧L k∧WrT ops k t:=fun t=>exists_congr fun k=>⟨fun⟨c1,c2,c3,c4⟩=>⟨c1,c2,(h k c1 c2).1 c3,c4⟩,fun⟨c1,c2,c3,c4⟩=>⟨c1,c2,(h k c1 c2).2 c3,c4⟩⟩;funext t;unfold ES;by_cases hx:∃k,p≤k∧k<q∧L k∧WrT ops k t
 · rw[if_pos hx,if_pos ((this t).2 hx)]
 · rw[if_neg hx,if_neg (fun hy=>hx ((this t).1 hy))]
theorem zs7 {L':Nat→Prop}(h:∀k,p≤k→k<q→(L' k↔L k)):HS s p q L'=HS s p q L:=by
 have:∀K,(∃k,p≤k∧k<q∧L' k∧(s k).2.length≤K∧K<(s (k+1)).2.length)↔∃k,p≤k∧k<q∧L k∧(s k).2.length≤K∧K<(s (k+1)).2.length:=fun K=>exists_congr fun k=>⟨fun⟨c1,c2,c3,c4⟩=>⟨c1,c2,(h k c1 c2).1 c3,c4⟩,fun⟨c1,c2,c3,c4⟩=>⟨c1,c2,(h k c1 c2).2 c3,c4⟩⟩;funext K;unfold HS;by_cases hK:K<(s p).2.length
 · rw[if_pos hK,if_pos hK]
 · rw[if_neg hK,if_neg hK];by_cases hx:∃k,p≤k∧k<q∧L k∧(s k).2.length≤K∧K<(s (k+1)).2.length
   · rw[if_pos hx,if_pos ((this K).2 hx)]
   · rw[if_neg hx,if_neg (fun hy=>hx ((this K).1 hy))]
theorem ze4 {nx:Nat}{e:Operand→AV}{H:Heap}{o:Oper}{K:AV→List Row→Prop}(hp:z6o o=true)(h:qW P sp nx e H o K):valW P sp H e o.op fun v=>K v []:=by
 unfold z6o at hp;unfold qW at h;split at h;all_goals (rename_i ho;try (rw[ho] at hp;cases hp))
 exact h
theorem zji {nx:Nat}{e:Operand→AV}{H:Heap}{o:Oper}{K:AV→List Row→Prop}(hp:z6o o=true)(h:valW P sp H e o.op fun v=>K v []):qW P sp nx e H o K:=by
 unfold z6o at hp;unfold qW;split;all_goals (rename_i ho;try (rw[ho] at hp;cases hp))
 exact h
theorem zvp {ms:Fls}(hst:∀i,i<ops.size→z6h P sp ops i (s i) (s (i+1)))(hr:∀m ks,(m,ks)∈ms→rck P sp ops (s (m+1)).1 (s (m+1)).2 ks){o:Oper}{ks:List Nat}(ho:ops[q]? =some o)(hf:Fl ms ops q o ks)(hc:CutB ops (q+1)):∃k r,FlAt P sp ops s q k r:=by
 have hlt:=(Array.getElem?_eq_some_iff.1 ho).1;obtain⟨o',ho',h⟩:=hst q hlt;rw[ho] at ho';cases ho';obtain⟨t,x,y,hop⟩:=hf.op;rcases h with ⟨-,v,h2,h3⟩|⟨h1, -⟩
 · unfold opW at h2;rw[hop] at h2;simp only at h2;obtain⟨k,r,⟨a1,a2,a3⟩,a4⟩:=z9a h2;rw[hf.dst] at h3;refine⟨k,r,hlt,hc,⟨o,t,x,y,ho,hop,hf.dst,hf.guard,a4⟩,a1,Prod.ext h3 a3.symm,fun i hi hb=> ?_⟩;obtain⟨hk,ok,b1,b2,b3,b4⟩:=hf.fl i hi hb;exact⟨ok,b1,b2,b3,b4,zvl (hr q ks hf.mem) hk b1⟩
 · unfold Wn at h1;rw[hf.guard] at h1;cases h1
theorem zs8 {ms:Fls}(hd:DrawOk ms ops)(hs:QSeg P sp ops s p q)(hpq:p≤q)(hL:z6c ops L){k:Nat}{r:Row}(hf:FlAt P sp ops s q k r)(hni:¬L q)(hdep:∀o,ops[q]? =some o→∀e∈o.after,Region.binds .any e=true→L e.on)
 (hR:Rel w0 fp S0 I n (ES ops s p q L) (HS s p q L) a w) {K:Act→World→Prop} (hK:∀I' a' w',Rel w0 fp S0 I' n (ES ops s p q L) (upd (HS s p q L) k r) a' w'→K a' w'):wpOp P ops Q q K a w:=by
 obtain⟨o,t,x,y,ho,hop,hds,hgu,hst⟩:=hf.st;have hlook:∀t∈o.looksAt ops,ES ops s p q L t=envE (s q).1 t:=fun t ht=>zb6 hd hs (Nat.le_of_lt hf.lt) hL ho hpq (Nat.le_refl _) hni (hdep o ho) ht
 have hops:∀z∈o.op.operands,evA (ES ops s p q L) z=evA (envE (s q).1) z:=fun z hz=>by
  cases z with
  |tmp t=>exact hlook t (by unfold Oper.looksAt;exact List.mem_append_left _ (List.mem_filterMap.2 ⟨.tmp t,by simpa using hz,rfl⟩))
  |_=>rfl
 rw[hop] at hops;simp only[Op.operands,Array.mem_def] at hops;rw[←hops x (by simp),←hops y (by simp)] at hst;have hst2:=zff (zb7 (L:=L) hs hpq (Nat.le_refl _)) (z4v hR.mem 4 _ _ (z2h hR x)) (z4v hR.mem 4 _ _ (z2h hR y)) hst;obtain⟨w',h1,h2,h3⟩:=zfb hR.mem hst2 (z2h hR x) (z2h hR y);unfold wpOp;rw[ho];simp only;have hwant:Region.wanted o (yielded ops a.tmps)=true:=by unfold Region.wanted;rw[hgu]
 rw[if_pos hwant];left;have hR':Rel w0 fp S0 I n (ES ops s p q L) (upd (HS s p q L) k r) a w':=⟨h2,hR.df,hR.size,fun i u hu=>h3 _ _ (hR.env i u hu),hR.out⟩;unfold Oper.wp;have hrun:(execOp a.eval o).run P w=.ok .skip w':=by simp only[execOp,hop,Sem.run_bind,h1,Result.andThen_ok];rfl
 rw[hrun];have hput:a.put o.dst undef=a:=by rw[hds];rfl
 show K (a.put o.dst undef) w';rw[hput];exact hK I a w' hR'
theorem zs9 (hsp:SpecOk P sp w0 fp){ms:Fls}(hd:DrawOk ms ops)(hs:QSeg P sp ops s p q)(hlen:∀i,i≤ops.size→(s i).1.length=n)(hL:z6c ops L){k:Nat}{r:Row}(hf:FlAt P sp ops s q k r)(hq1:L q){i:Nat}(hp:p≤i)(hq:i<q)(hni:¬L i)(hdep:∀o,ops[i]? =some o→∀e∈o.after,Region.binds .any e=true→L e.on)
 (hR:Rel w0 fp S0 I n (ES ops s p q L) (upd (HS s p q L) k r) a w) {L':Nat→Prop} (hL':∀k,L' k↔L k∨k=i) {K:Act→World→Prop} (hK:∀I' a' w',Rel w0 fp S0 I' n (ES ops s p q L') (upd (HS s p q L') k r) a' w'→K a' w'):wpOp P ops Q i K a w:=by
 have hqn:=Nat.le_of_lt hf.lt;have hnb:¬Bef ops i q:=fun hb=>hni (hb.listed hL (Array.getElem?_eq_getElem hf.lt) (fun e he hb=>hL q _ (Array.getElem?_eq_getElem hf.lt) hq1 e he hb));obtain⟨o,ho,hpu,hgu,hlk,t,hdt,hval⟩:=hf.fl i hq hnb;have hin:=(Array.getElem?_eq_some_iff.1 ho).1;obtain⟨o',ho',h⟩:=hs i hp hq;rw[ho] at ho';cases ho';have e1:(s (q+1)).1=(s q).1:=by rw[hf.nx]
 have e2:(s (q+1)).2=setRow (s q).2 k r:=by rw[hf.nx]
 have hbw:∀t∈o.looksAt ops,∀j,i≤j→¬WrT ops j t:=fun t ht j hj ⟨oj,hoj,hdj⟩=>by have:=(hlk t ht j oj hoj hdj).lt hd hin;omega
 have hlook:∀t∈o.looksAt ops,ES ops s p q L t=envE (s (q+1)).1 t:=fun t ht=>by rw[zb6 hd hs hqn hL ho hp (Nat.le_of_lt hq) hni (hdep o ho) ht,e1];exact(z3q hs hp (Nat.le_of_lt hq) (Nat.le_refl _) (fun j h1 h2=>hbw t ht j h1)).symm
 have hops:∀z∈o.op.operands,evA (ES ops s p q L) z=evA (envE (s (q+1)).1) z:=fun z hz=>by
  cases z with
  |tmp t=>exact hlook t (by unfold Oper.looksAt;exact List.mem_append_left _ (List.mem_filterMap.2 ⟨.tmp t,by simpa using hz,rfl⟩))
  |_=>rfl
 have hcomp:z4l (z00 (s (q+1)).2) (upd (HS s p q L) k r):=fun K a1 a2=>by
  rw[e2,z8n _ _ _ (Nat.le_of_lt hf.lek)] at a1⊢;by_cases hK:K=k
  · subst hK;rw[z0j,z0j]
  · rw[z6b _ _ hK] at a1 a2⊢;rw[z6b _ _ hK];exact zb7 (L:=L) hs (Nat.le_trans hp (Nat.le_of_lt hq)) (Nat.le_refl _) K a1 a2
 have hval2:=z7e hcomp hops (fun z hz=>z4v hR.mem 4 _ _ (z2h hR z)) hval;unfold wpOp;rw[ho];simp only;have hwant:Region.wanted o (yielded ops a.tmps)=true:=by unfold Region.wanted;rw[hgu]
 rw[if_pos hwant];left;rcases h with ⟨-,v,new,h1,h2,h3⟩|⟨hw, -⟩
 · have hnil:=ze4 hpu h1;obtain⟨v',⟨rfl,rfl⟩, -⟩:=z7d hnil;have hq2:qW P sp 0 (evA (ES ops s p q L)) (upd (HS s p q L) k r) o fun v new=>v=envE (s (q+1)).1 t∧new=[]:=zji hpu (by simpa using hval2);refine q_ok hsp hq2 S0 I n a w hR (fun k k1 k2=>by simp at k2) K Q (fun u w' I' hv hm hk=> ?_);rw[z98] at hv hm hk;have hh:HS s p q L'=HS s p q L:=by rw[znv hs hp hq h2 hL',z98]
   refine hK I' _ w' ?_;rw[hh];refine hR.putF hm hv hk o.dst (fun t'=> ?_);rw[znu hd hs ho hp hq hni h3 hL' (hlen i (Nat.le_of_lt hin)) t'];by_cases ht':o.dst=some t'∧t'<n
   · rw[if_pos ht',if_pos ht'];obtain⟨g1,g2⟩:=ht';rw[hdt] at g1;cases g1;rw[e1,z3q (j:=q) hs (i:=i+1) (by omega) (by omega) (Nat.le_refl _) (fun j j1 j2 ⟨oj,j3,j4⟩=>hd.uniq i j o oj t ho j3 (by omega) j4 hdt),h3,z44,if_pos ⟨hdt,by rw[hlen i (Nat.le_of_lt hin)];exact g2⟩]
   · rw[if_neg ht',if_neg ht']
 · unfold Wn at hw;rw[hgu] at hw;cases hw
structure Inv (P:Program)(sp:Spec)(w0:World)(fp:Nat→Prop)(S0:Bs)(ops:Array Oper)(s:Nat→StT)(n:Nat)(listed:Array Bool)(a:Act)(w:World):Prop where
 ex:∃p q I,p≤q∧q≤ops.size∧(∀i,p≤i→i<q→∃o,ops[i]? =some o∧z32 o=true)∧(∀i,i<p→LB listed i)∧
  ((CutB ops q∧(∀i,q≤i→¬LB listed i)∧Rel w0 fp S0 I n (ES ops s p q (LB listed)) (HS s p q (LB listed)) a w)∨
   ∃k r,FlAt P sp ops s q k r∧(∀i,q+1≤i→¬LB listed i)∧((¬LB listed q∧Rel w0 fp S0 I n (ES ops s p q (LB listed)) (HS s p q (LB listed)) a w)∨(LB listed q∧Rel w0 fp S0 I n (ES ops s p q (LB listed)) (upd (HS s p q (LB listed)) k r) a w)))
 down:z6c ops (LB listed)
 size:listed.size=ops.size
theorem zuc {listed:Array Bool}{i:Nat}(hi:i<listed.size)(k:Nat):LB (listed.setIfInBounds i true) k↔LB listed k∨k=i:=by
 unfold LB;by_cases h:k=i
 · subst h;simp[hi]
 · rw[getD_set_ne false (fun e=>h e.symm)];simp[h]
theorem znw (hst:∀i,i<ops.size→z6h P sp ops i (s i) (s (i+1)))(hqn:q≤ops.size)(h:∀i,p≤i→i<q→∃o,ops[i]? =some o∧z32 o=true):QSeg P sp ops s p q:=fun i h1 h2=>by obtain⟨o,ho,hq⟩:=h i h1 h2;exact⟨o,ho,zle ho hq (hst i (by omega))⟩
theorem zsa {ms:Fls}(hd:DrawOk ms ops){b:Nat}(hb:b<ops.size){o:Oper}(ho:ops[b]? =some o)(hq:z32 o=true):∃c,b<c∧c≤ops.size∧(CutB ops c∨∃oc ks,ops[c]? =some oc∧Fl ms ops c oc ks∧CutB ops (c+1))∧∀i,b≤i→i<c→∃o,ops[i]? =some o∧z32 o=true:=by
 have key:∀d c,c+d=ops.size→b<c→(∀i,b≤i→i<c→∃o,ops[i]? =some o∧z32 o=true)→∃c,b<c∧c≤ops.size∧(CutB ops c∨∃oc ks,ops[c]? =some oc∧Fl ms ops c oc ks∧CutB ops (c+1))∧∀i,b≤i→i<c→∃o,ops[i]? =some o∧z32 o=true:=by
  intro d
  induction d with
  |zero=>intro c hc hbc h;exact⟨c,hbc,by omega,.inl fun i j h1 h2 h3=>by omega,h⟩
  |succ d ih=>
   intro c hc hbc h;have hcl:c<ops.size:=by omega
   have hco:=Array.getElem?_eq_getElem hcl;by_cases hcq:z32 ops[c]=true
   · refine ih (c+1) (by omega) (by omega) (fun i h1 h2=> ?_);by_cases hic:i=c
     · subst hic;exact⟨_,hco,hcq⟩
     · exact h i h1 (by omega)
   · obtain⟨h1,h2⟩:=hd.cut c _ hco (by simpa using hcq);exact⟨c,hbc,by omega,h1.imp id (fun⟨ks,h⟩=>⟨_,ks,hco,h,h2⟩),h⟩
 refine key (ops.size - (b+1)) (b+1) (by omega) (by omega) (fun i h1 h2=> ?_);have:i=b:=by omega
 subst this;exact⟨o,ho,hq⟩
theorem zjj {listed:Array Bool}(hst:∀i,i<ops.size→z6h P sp ops i (s i) (s (i+1))){I:Itp}(h1:p≤q)(h2:q≤ops.size)(h3:∀i,p≤i→i<q→∃o,ops[i]? =some o∧z32 o=true)(h4:∀i,i<q→LB listed i)
 (h5:(CutB ops q∧(∀i,q≤i→¬LB listed i)∧Rel w0 fp S0 I n (ES ops s p q (LB listed)) (HS s p q (LB listed)) a w)∨
  ∃k r,FlAt P sp ops s q k r∧(∀i,q+1≤i→¬LB listed i)∧LB listed q∧Rel w0 fp S0 I n (ES ops s p q (LB listed)) (upd (HS s p q (LB listed)) k r) a w):
 ∃e,e≤ops.size∧CutB ops e∧(∀i,i<e→LB listed i)∧(∀i,e≤i→¬LB listed i)∧Rel w0 fp S0 I n (envE (s e).1) (z00 (s e).2) a w:=by
 have hqs:=znw hst h2 h3;have hfull:∀i,p≤i→i<q→LB listed i:=fun i _ h=>h4 i h;rw[zvn hqs h1 hfull,zvo hqs h1 hfull] at h5;rcases h5 with ⟨a1,a2,a3⟩|⟨k,r,a1,a2,a3,a4⟩
 · exact⟨q,h2,a1,h4,a2,a3⟩
 · refine⟨q+1,a1.lt,a1.cut,fun i hi=> ?_,a2, ?_⟩
   · by_cases hiq:i=q
     · exact hiq ▸ a3
     · exact h4 i (by omega)
   · rw[a1.nx,z8n _ _ _ (Nat.le_of_lt a1.lek)];exact a4
theorem znx (hsp:SpecOk P sp w0 fp){ms:Fls}(hd:DrawOk ms ops)(hst:∀i,i<ops.size→z6h P sp ops i (s i) (s (i+1)))(hr:∀m ks,(m,ks)∈ms→rck P sp ops (s (m+1)).1 (s (m+1)).2 ks)(hlen:∀i,i≤ops.size→(s i).1.length=n)
 (hQ:∀I' a' w',Rel w0 fp S0 I' n (envE (s ops.size).1) (z00 (s ops.size).2) a' w'→Q .normal a' w'):∀(fuel:Nat) (listed:Array Bool) (a:Act) (w:World),Inv P sp w0 fp S0 ops s n listed a w→cntU ops.size listed≤fuel→wpAny P .any ops Q fuel listed a w:=by
 have fin:∀(listed:Array Bool) (a:Act) (w:World),Inv P sp w0 fp S0 ops s n listed a w→(∀i,i<ops.size→LB listed i)→Q .normal a w:=fun listed a w hI hall=>by
  obtain⟨p,q,I,h1,h2,h3,h4,h5⟩:=hI.ex;obtain⟨e,e1, -, -,e4,e5⟩:=zjj hst h1 h2 h3 (fun i hi=>hall i (by omega)) (h5.imp id fun⟨k,r,a1,a2,a3⟩=>⟨k,r,a1,a2,a3.elim (fun h=>absurd (hall q a1.lt) h.1) id⟩);have:e=ops.size:=by apply Decidable.byContradiction;intro hne;exact e4 e (Nat.le_refl _) (hall e (by omega))
  subst this;exact hQ I a w e5
 have allOf:∀(listed:Array Bool) (a:Act) (w:World),Inv P sp w0 fp S0 ops s n listed a w→Region.ready .any ops listed=[]→∀i,i<ops.size→LB listed i:=fun listed a w hI hr=>by
  intro i
  induction i using Nat.strongRecOn with
  |_ i ih=>
   intro hi;apply Decidable.byContradiction;intro hn;have:i∈Region.ready .any ops listed:=by rw[mem_ready];exact⟨(z1m (by rw[hI.size];exact hi)).2 hn,ops[i],Array.getElem?_eq_getElem hi,fun e he hb=>by have:=hd.edge i _ (Array.getElem?_eq_getElem hi) e he hb;exact ih e.on this (by omega)⟩
   rw[hr] at this;cases this
 intro fuel
 induction fuel with
 |zero=>
  intro listed a w hI hc;have hall:∀i,i<ops.size→LB listed i:=fun i hi=>by apply Decidable.byContradiction;intro hn;have h1:=(z1m (by rw[hI.size];exact hi)).2 hn;unfold cntU at hc;have:i∈(List.range ops.size).filter fun i=> !listed.getD i true:=List.mem_filter.2 ⟨List.mem_range.2 hi,by rw[h1];rfl⟩;have:=List.length_pos_iff_exists_mem.2 ⟨i,this⟩;omega
  refine⟨?_,fin listed a w hI hall⟩
  cases hr:Region.ready .any ops listed with
  |nil=>rfl
  |cons j r=>
   have:j∈Region.ready .any ops listed:=by rw[hr];simp
   rw[mem_ready] at this;obtain⟨h1,o,ho, -⟩:=this;have hj:=(Array.getElem?_eq_some_iff.1 ho).1;exact absurd (hall j hj) ((z1m (by rw[hI.size];exact hj)).1 h1)
 |succ fuel ih=>
  intro listed a w hI hc;refine⟨fun hr=>fin listed a w hI (allOf listed a w hI hr),fun i hi=> ?_⟩;rw[mem_ready] at hi;obtain⟨hi1,o,ho,hdep⟩:=hi;have hin:=(Array.getElem?_eq_some_iff.1 ho).1;have hisz:i<listed.size:=by rw[hI.size];exact hin
  have hni:=(z1m hisz).1 hi1;have hdep':∀o',ops[i]? =some o'→∀e∈o'.after,Region.binds .any e=true→LB listed e.on:=fun o' ho' e he hb=>by rw[ho] at ho';cases ho';exact hdep e he hb
  have hcnt:cntU ops.size (listed.setIfInBounds i true)≤fuel:=by
   have:cntU ops.size (listed.setIfInBounds i true)<cntU ops.size listed:=by
    unfold cntU;refine z7x _ i (fun x hx h=> ?_) (List.mem_range.2 hin) (by rw[hi1];rfl) (by simp[hisz]);by_cases hxi:x=i
    · subst hxi;simp[hisz] at h
    · rw[getD_set_ne true (fun e=>hxi e.symm)] at h;exact h
   omega
  have hset:=fun k=>zuc hisz k
  have hdown':z6c ops (LB (listed.setIfInBounds i true)):=fun j oj hoj hj e he hb=>by
   rw[hset] at hj⊢;rcases hj with hj|rfl
   · exact .inl (hI.down j oj hoj hj e he hb)
   · exact .inl (hdep' oj hoj e he hb)
  have hsize':(listed.setIfInBounds i true).size=ops.size:=by rw[Array.size_setIfInBounds];exact hI.size
  have hset':∀k,k≠i→(LB (listed.setIfInBounds i true) k↔LB listed k):=fun k hk=>by rw[hset];exact⟨fun h=>h.elim id (fun e=>absurd e hk),.inl⟩
  have inner:∀p q I,p≤q→q≤ops.size→(∀i,p≤i→i<q→∃o,ops[i]? =some o∧z32 o=true)→(∀i,i<p→LB listed i)→
   ((CutB ops q∧(∀i,q≤i→¬LB listed i)∧i<q∧Rel w0 fp S0 I n (ES ops s p q (LB listed)) (HS s p q (LB listed)) a w)∨
     ∃k r,FlAt P sp ops s q k r∧(∀i,q+1≤i→¬LB listed i)∧i≤q∧((¬LB listed q∧Rel w0 fp S0 I n (ES ops s p q (LB listed)) (HS s p q (LB listed)) a w)∨(LB listed q∧Rel w0 fp S0 I n (ES ops s p q (LB listed)) (upd (HS s p q (LB listed)) k r) a w)))→
   p≤i→wpOp P ops Q i (wpAny P .any ops Q fuel (listed.setIfInBounds i true)) a w:=fun p q I h1 h2 h4 h5 h6 hp=>by
   have hqs:=znw hst h2 h4;have hbel:∀k,k<p→LB (listed.setIfInBounds i true) k:=fun k hk=>(hset k).2 (.inl (h5 k hk));rcases h6 with ⟨g1,g2,g3,g4⟩|⟨k,r,g1,g2,g3,g4⟩
   · refine zfj hsp hd hqs h2 hlen hI.down hp g3 hni hdep' g4 hset (fun I' a' w' hR'=>ih _ a' w' ⟨⟨p,q,I',h1,h2,h4,hbel,.inl ⟨g1,fun k hk hl=> ?_,hR'⟩⟩,hdown',hsize'⟩ hcnt);exact g2 k hk ((hset' k (by omega)).1 hl)
   · have hab:∀k,q+1≤k→¬LB (listed.setIfInBounds i true) k:=fun k hk hl=>g2 k hk ((hset' k (by omega)).1 hl);rcases g4 with ⟨b1,b2⟩|⟨b1,b2⟩
     · by_cases hiq:i=q
       · subst hiq;have hsame:ES ops s p i (LB (listed.setIfInBounds i true))=ES ops s p i (LB listed)∧HS s p i (LB (listed.setIfInBounds i true))=HS s p i (LB listed):=⟨zs6 fun k c1 c2=>hset' k (by omega),zs7 fun k c1 c2=>hset' k (by omega)⟩;refine zs8 hd hqs h1 hI.down g1 hni hdep' b2 (fun I' a' w' hR'=>ih _ a' w' ⟨⟨p,i,I',h1,h2,h4,hbel,.inr ⟨k,r,g1,hab,.inr ⟨(hset i).2 (.inr rfl), ?_⟩⟩⟩,hdown',hsize'⟩ hcnt);rw[hsame.1,hsame.2];exact hR'
       · exact zfj hsp hd hqs h2 hlen hI.down hp (by omega) hni hdep' b2 hset (fun I' a' w' hR'=>ih _ a' w' ⟨⟨p,q,I',h1,h2,h4,hbel,.inr ⟨k,r,g1,hab,.inl ⟨fun hl=>b1 ((hset' q (by omega)).1 hl),hR'⟩⟩⟩,hdown',hsize'⟩ hcnt)
     · have hiq:i≠q:=fun e=>hni (e ▸ b1);exact zs9 hsp hd hqs hlen hI.down g1 b1 hp (by omega) hni hdep' b2 hset (fun I' a' w' hR'=>ih _ a' w' ⟨⟨p,q,I',h1,h2,h4,hbel,.inr ⟨k,r,g1,hab,.inr ⟨(hset q).2 (.inl b1),hR'⟩⟩⟩,hdown',hsize'⟩ hcnt)
  obtain⟨p,q,I,h1,h2,h4,h5,h6⟩:=hI.ex;have hge:∀k,¬LB listed k→p≤k:=fun k hk=>by apply Decidable.byContradiction;intro hn;exact hk (h5 k (by omega))
  have part:(∀e,(∃k,p≤k∧k<e∧¬LB listed k)→CutB ops e→i<e):=fun e ⟨k,k1,k2,k3⟩ hc=>by apply Decidable.byContradiction;intro hn;exact k3 ((hc k i k2 (by omega) hin).listed hI.down ho (hdep' o ho))
  by_cases hpart:(∃k,p≤k∧k<q∧¬LB listed k)∨∃k r,FlAt P sp ops s q k r∧¬LB listed q
  · refine inner p q I h1 h2 h4 h5 ?_ (hge i hni);rcases h6 with ⟨g1,g2,g3⟩|⟨k,r,g1,g2,g3⟩
    · rcases hpart with hpart|⟨k,r,hf, -⟩
      · exact .inl ⟨g1,g2,part q hpart g1,g3⟩
      · have hc:=hf.cut;by_cases hlt:i<q
        · exact .inl ⟨g1,g2,hlt,g3⟩
        · have:i=q:=by have:=part (q+1) ⟨q,h1,by omega,g2 q (Nat.le_refl _)⟩ hc;omega
          exact .inr ⟨k,r,hf,fun k hk=>g2 k (by omega),by omega,.inl ⟨g2 q (Nat.le_refl _),g3⟩⟩
    · refine .inr ⟨k,r,g1,g2, ?_,g3⟩;have:i<q+1:=part (q+1) (hpart.elim (fun⟨k,k1,k2,k3⟩=>⟨k,k1,by omega,k3⟩) (fun⟨_,_,_,h⟩=>⟨q,h1,by omega,h⟩)) g1.cut;omega
  · have hbelow:∀k,k<q→LB listed k:=fun k hk=>by
     by_cases hkp:k<p
     · exact h5 k hkp
     · exact Decidable.byContradiction fun hn=>hpart (.inl ⟨k,by omega,hk,hn⟩)
    obtain⟨e,e1,e2,e3,e4,e5⟩:=zjj hst h1 h2 h4 hbelow (h6.imp id fun⟨k,r,a1,a2,a3⟩=>⟨k,r,a1,a2,a3.elim (fun h=>absurd (.inr ⟨k,r,a1,h.1⟩) hpart) id⟩);have hie:e≤i:=by apply Decidable.byContradiction;intro hn;exact hni (e3 i (by omega))
    have helt:e<ops.size:=by omega
    have heo:=Array.getElem?_eq_getElem helt;have hnone:∀c,∀k,e≤k→k<c→¬LB listed k:=fun c k a1 _=>e4 k a1;have lt_of:∀c,e<c→CutB ops c→i<c:=fun c hc hcut=>by apply Decidable.byContradiction;intro hn;exact e4 e (Nat.le_refl _) ((hcut e i hc (by omega) hin).listed hI.down ho (hdep' o ho))
    by_cases hquiet:z32 ops[e]=true
    · obtain⟨c,c1,c2,c3,c4⟩:=zsa hd helt heo hquiet;refine inner e c I (by omega) c2 c4 e3 ?_ hie;rw[zb8 (hnone c),ze3 (hnone c)];rcases c3 with c3|⟨oc,ks,d1,d2,d3⟩
      · exact .inl ⟨c3,fun k hk=>e4 k (by omega),lt_of c c1 c3,e5⟩
      · obtain⟨k,r,hf⟩:=zvp hst hr d1 d2 d3;have:=lt_of (c+1) (by omega) d3;exact .inr ⟨k,r,hf,fun k hk=>e4 k (by omega),by omega,.inl ⟨e4 c (by omega),e5⟩⟩
    · have hcut:=(hd.cut e _ heo (by simpa using hquiet)).2;have hieq:i=e:=by have:=lt_of (e+1) (by omega) hcut;omega
      subst hieq;have hnext:∀k,i+1≤k→k<i+1→¬LB (listed.setIfInBounds i true) k:=fun k a1 a2=>by omega
      have done:∀I' a' w',Rel w0 fp S0 I' n (envE (s (i+1)).1) (z00 (s (i+1)).2) a' w'→wpAny P .any ops Q fuel (listed.setIfInBounds i true) a' w':=fun I' a' w' hR'=>by
       refine ih _ a' w' ⟨⟨i+1,i+1,I',Nat.le_refl _,by omega,fun k a1 a2=>by omega,fun k hk=> ?_,.inl ⟨hcut,fun k hk hl=>e4 k (by omega) ((hset' k (by omega)).1 hl), ?_⟩⟩,hdown',hsize'⟩ hcnt
       · rw[hset];by_cases hki:k=i
         · exact .inr hki
         · exact .inl (e3 k (by omega))
       · rw[zb8 hnext,ze3 hnext];exact hR'
      obtain⟨o',ho',hstep⟩:=hst i hin;have hli:=hlen i (Nat.le_of_lt hin);have h7':RelS w0 fp S0 I (s i).1 (s i).2 a w:=by unfold RelS;rw[hli];exact e5
      unfold wpOp;rw[ho'];simp only;rcases hstep with ⟨a1,v,a2,a3⟩|⟨a1,a2⟩
      · rw[if_pos (z2l e5 a1)];left;refine zjf hsp a2 h7' (fun I' u w' hR'=>done I' _ w' ?_);unfold RelS at hR';rw[z2q,hli,←a3] at hR';exact hR'
      · rw[if_neg (by rw[z2l e5 a1];simp)];have hR':=h7'.put h7'.mem (.cl _ _ (.sc undef)) (fun y u hu=>hu) o'.dst;refine done I _ w ?_;rw[a2];unfold RelS at hR';rw[z2q,hli] at hR';exact hR'
end
end Go.Proofs.YtnlacmnoocigiaaGreatDoor.Aw
namespace Go.Proofs.YtnlacmnoocigiaaGreatDoor.Aw
open Go.RowKit
def renO (g:Nat→Option Nat):Nat→AV→AV
 |_,.sc u=>.sc u
 |_,.ro l=>.ro l
 |_,.rp l=>.rp l
 |_,.ptr K off=>match g K with
  |some K'=>.ptr K' off
  |none=>.dead
 |_,.sl K n=>match g K with
  |some K'=>.sl K' n
  |none=>.dead
 |_,.lp K n i j=>match g K with
  |some K'=>.lp K' n i j
  |none=>.dead
 |f+1,.agg l=>.agg (l.map (renO g f))
 |f+1,.tup l=>.tup (l.map (renO g f))
 |f+1,.fn h l=>.fn h (l.map (renO g f))
 |_,_=>.dead
def renR (g:Nat→Option Nat):Row→Row
 |.var cs e=>.var (cs.map (renO g 3)) e
 |r=>r
def zny (I I':Itp)(H H':Heap)(g:Nat→Option Nat):Prop:=∀K K',g K=some K'→match H K with
 |.var _ _=>(∃cs e,H' K'=.var cs e)∧I'.ρ K'=I.ρ K
 |.lst sz l e=>H' K'=.lst sz l e∧I'.hdr K'=I.hdr K
 |.fro l=>H' K'=.fro l∧I'.hdr K'=I.hdr K
 |.dead=>True
def posI :List Nat→Nat→Option Nat
 |[],_=>none
 |x::l,K=>if x=K then some 0 else(posI l K).map (· +1)
def getI (s:List Nat)(nx j:Nat):Nat:=match s[j]? with
 |some K=>K
 |none=>nx+(j - s.length)
def z13 (s:List Nat):List Nat→Bool
 |[]=>true
 |x::l=> !(l.contains x) && z13 s l
def refsA :Nat→AV→List Nat
 |_,.ptr K _=>[K]
 |_,.sl K _=>[K]
 |_,.lp K _ _ _=>[K]
 |f+1,.agg l=>refsL f l
 |_,_=>[]
where refsL : Nat → List AV → List Nat
 |_,[]=>[]
 |f,x::l=>refsA f x++refsL f l
def z33 (rows:List Row)(K:Nat):List Nat:=match rows.getD K .dead with
 |.var cs _=>cs.flatMap (refsA 2)
 |_=>[]
def addU (s:List Nat):List Nat→List Nat
 |[]=>s
 |x::l=>if s.contains x then addU s l else addU (s++[x]) l
def z1a (rows:List Row)(args:List AV):List Nat:=
 let r0:=addU [] (args.flatMap (refsA 2))
 let r1:=addU r0 (r0.flatMap (z33 rows))
 addU r1 (r1.flatMap (z33 rows))
def z0e :Row→Bool
 |.var _ _=>true
 |_=>false
def z1g (s:List Nat)(rows:List Row)(K:Nat):Option Nat:=if(posI s K).isSome && !z0e (rows.getD K .dead) then none else some K
def z0w (s:List Nat)(nx:Nat)(rows1 rows:List Row):Nat→List Row→List Row
 |_,[]=>[]
 |i,r::l=>(match posI s i with
  |some j=>renR (fun j=>some (getI s nx j)) (rows1.getD j .dead)
  |none=>renR (z1g s rows) r)::z0w s nx rows1 rows (i+1) l
def mcU (sp:Spec)(nx:Nat)(env:List AV)(rows:List Row)(g:FuncId)(args:List AV)(s:List Nat)(K:AV→List AV→List Row→Prop):Prop:=
 z13 s s=true∧s.all (fun k=>decide (k<nx))=true∧match sp.callM g (args.map (renO (posI s) 3)) (s.map fun k=>renR (posI s) (rows.getD k .dead)) with
  |some (c,r,rows1)=>c∧s.length≤rows1.length∧K (renO (fun j=>some (getI s nx j)) 3 r) (env.map (renO (z1g s rows) 3)) (z0w s nx rows1 rows 0 rows++(rows1.drop s.length).map (renR fun j=>some (getI s nx j)))
  |none=>False
def mcW (sp:Spec)(env:List AV)(rows:List Row)(g:FuncId)(args:List AV)(K:AV→List AV→List Row→Prop):Prop:=mcU sp rows.length env rows g args (z1a rows args) K
def mcOf (sp:Spec)(o:Oper):Option (FuncId×List Operand):=match o.op with
 |.call c=>match c.callee with
  |.value (.func g)=>if sp.ms.contains g then some (g,c.args.toList) else none
  |_=>none
 |_=>none
def opsM (P:Program)(sp:Spec)(ops:Array Oper):List Oper→List AV→List Row→(List AV→List Row→Prop)→Prop
 |[],env,rows,K=>K env rows
 |o::l,env,rows,K=>match mcOf sp o with
  |some (g,xs)=>o.guard=none∧mcW sp env rows g (xs.map (evA (envE env))) fun v env' rows'=>opsM P sp ops l (putE env' o.dst v) rows' K
  |none=>opsW P sp ops [o] env rows fun env' rows'=>opsM P sp ops l env' rows' K
section
variable {P : Program} {sp : Spec} {w0 w w' : World} {fp : Nat → Prop} {S0 : Bs} {I I' I1 : Itp} {H H' : Heap} {n nx m p q : Nat} {E E' : Nat → AV} {a : Act} {env env' : List AV} {rows rows' rows1 : List Row} {ops : Array Oper} {g : Nat → Option Nat} {s : List Nat}
theorem z7y (hs:∀k,I.S k→I'.S k)(hk:∀k,I.S k→w'.heap[k]? =w.heap[k]?)(hg:zny I I' H H' g):∀(f:Nat) (x:AV) (v:Value),VR I H w x v→VR I' H' w' (renO g f x) v
 |f,.sc u,v,hv=>by
  have:renO g f (.sc u)=.sc u:=by cases f<;>rfl
  rw[this,hv.sc_inv];exact .cl _ _ (.sc _)
 |f,.ro u,v,hv=>by
  have:renO g f (.ro u)=.ro u:=by cases f<;>rfl
  rw[this];exact .cl _ _ (hv.ro_inv.keep hs hk)
 |f,.rp u,v,hv=>by
  have:renO g f (.rp u)=.rp u:=by cases f<;>rfl
  rw[this];exact .cl _ _ (hv.rp_inv.keep hs hk)
 |f,.dead,v,hv=>by
  have:renO g f .dead=.dead:=by cases f<;>rfl
  rw[this];exact .dead v
 |f,.ptr K off,v,hv=>by
  have:renO g f (.ptr K off)=(match g K with|some K'=>.ptr K' off|none=>.dead):=by cases f<;>rfl
  rw[this];obtain⟨rfl,cs,e,hK⟩:=hv.ptr_inv
  cases hgK:g K with
  |none=>exact .dead _
  |some K'=>have:=hg K K' hgK;rw[hK] at this;obtain⟨⟨cs',e',h1⟩,h2⟩:=this;simp only;rw[←h2];exact .ptr K' off cs' e' h1
 |f,.sl K k,v,hv=>by
  have:renO g f (.sl K k)=(match g K with|some K'=>.sl K' k|none=>.dead):=by cases f<;>rfl
  rw[this];obtain⟨mm,q1,q2,q3⟩:=hv.sl_inv
  cases hgK:g K with
  |none=>exact .dead _
  |some K'=>
   have:=hg K K' hgK
   cases hK:H K with
   |dead=>rw[hK] at q1;cases q1
   |var=>rw[hK] at q1;cases q1
   |lst sz l e=>rw[hK] at this q1;exact .sl K' k mm v (by rw[this.1];exact q1) q2 (fun e=>by rw[this.2];exact q3 e)
   |fro l=>rw[hK] at this q1;exact .sl K' k mm v (by rw[this.1];exact q1) q2 (fun e=>by rw[this.2];exact q3 e)
 |f,.lp K k i j,v,hv=>by
  have:renO g f (.lp K k i j)=(match g K with|some K'=>.lp K' k i j|none=>.dead):=by cases f<;>rfl
  rw[this];obtain⟨mm,q1,q2,q3⟩:=hv.lp_inv
  cases hgK:g K with
  |none=>exact .dead _
  |some K'=>
   have:=hg K K' hgK
   cases hK:H K with
   |dead=>rw[hK] at q1;cases q1
   |var=>rw[hK] at q1;cases q1
   |lst sz l e=>rw[hK] at this q1;exact .lp K' k i j mm v (by rw[this.1];exact q1) q2 (fun sz' l' e' h1 h2=>by rw[this.1] at h1;cases h1;obtain⟨gg,off,c,h3,h4⟩:=q3 sz l e hK h2;exact⟨gg,off,c,by rw[this.2];exact h3,h4⟩)
   |fro l=>rw[hK] at this q1;exact .lp K' k i j mm v (by rw[this.1];exact q1) q2 (fun sz' l' e' h1 h2=>by rw[this.1] at h1;cases h1)
 |0,.agg l,v,hv=>.dead v
 |0,.tup l,v,hv=>.dead v
 |0,.fn h l,v,hv=>.dead v
 |f+1,.agg l,v,hv=>by
  obtain⟨vs,rfl,g1,g2,g3⟩:=hv.agg_inv;refine .agg _ vs (by rw[List.length_map];exact g1) g2 (fun i x v h1 h2=> ?_);rw[List.getElem?_map] at h1
  cases hx:l[i]? with
  |none=>rw[hx] at h1;cases h1
  |some y=>rw[hx] at h1;cases h1;exact z7y hs hk hg f y v (g3 i y v hx h2)
 |f+1,.tup l,v,hv=>by
  obtain⟨vs,rfl,g1,g3⟩:=hv.tup_inv;refine .tup _ vs (by rw[List.length_map];exact g1) (fun i x v h1 h2=> ?_);rw[List.getElem?_map] at h1
  cases hx:l[i]? with
  |none=>rw[hx] at h1;cases h1
  |some y=>rw[hx] at h1;cases h1;exact z7y hs hk hg f y v (g3 i y v hx h2)
 |f+1,.fn h l,v,hv=>by
  obtain⟨vs,rfl,g1,g3⟩:=hv.fn_inv;refine .fn h _ vs (by rw[List.length_map];exact g1) (fun i x v h1 h2=> ?_);rw[List.getElem?_map] at h1
  cases hx:l[i]? with
  |none=>rw[hx] at h1;cases h1
  |some y=>rw[hx] at h1;cases h1;exact z7y hs hk hg f y v (g3 i y v hx h2)
theorem zhy (hs:∀k,I.S k→I'.S k)(hk:∀k,I.S k→w'.heap[k]? =w.heap[k]?)(hg:zny I I' H H' g){K K':Nat}{r:Row}(h:zho I H w K r)(h1:I'.ρ K'=I.ρ K)(h2:I'.hdr K'=I.hdr K)(h3:I'.ow K'=I.ow K)
 (hb:∀k,(match r with|.var _ _=>k=I.ρ K|.lst _ _ _=>I.ow K=some k|_=>False)→w'.heap[k]? =w.heap[k]?):zho I' H' w' K' (renR g r):=by
 cases r with
 |dead=>trivial
 |fro l=>show VC I'.S w' (.ro l) (I'.hdr K');rw[h2];exact VC.keep hs hk h
 |lst sz l e=>obtain⟨hz,cs,g1,g2⟩:=h;refine⟨hz,cs, ?_,g2.keep hs hk⟩;rw[h2,h3];exact g1.keep (fun k hk=>hb k hk)
 |var cs e=>
  obtain⟨vs,g1,g2,g3,g4⟩:=h;refine⟨vs,by rw[h1];exact(hb _ rfl).trans g1,by rw[List.length_map];exact g2,g3,fun i x v a b=> ?_⟩;rw[List.getElem?_map] at a
  cases hx:cs[i]? with
  |none=>rw[hx] at a;cases a
  |some y=>rw[hx] at a;cases a;exact z7y hs hk hg 3 y v (g4 i y v hx b)
theorem z6p :∀{s:List Nat} {K j:Nat},posI s K=some j→s[j]? =some K
 |[],_,_,h=>by cases h
 |x::l,K,j,h=>by
  unfold posI at h;split at h
  · rename_i e;cases h;rw[e];rfl
  · rw[Option.map_eq_some_iff] at h;obtain⟨i,hi,rfl⟩:=h;have:=z6p (s:=l) hi;simpa using this
theorem zai {t:List Nat}:∀{s:List Nat} {K j:Nat},z13 t s=true→s[j]? =some K→posI s K=some j
 |[],_,_,_,h=>by simp at h
 |x::l,K,j,hf,h=>by
  unfold z13 at hf;rw[Bool.and_eq_true,Bool.not_eq_true'] at hf
  cases j with
  |zero=>simp at h;subst h;unfold posI;rw[if_pos rfl]
  |succ j=>
   have h:l[j]? =some K:=by simpa using h
   unfold posI;rw[if_neg (fun e=> ?_),zai hf.2 h]
   · rfl
   · subst e;have:=List.mem_of_getElem? h;have h2:l.contains x=true:=List.contains_iff_mem.2 this;rw[h2] at hf;cases hf.1
theorem zjk {s:List Nat}{nx K j:Nat}(h:posI s K=some j):getI s nx j=K:=by unfold getI;rw[z6p h]
theorem zcv {s:List Nat}{nx:Nat}{rows1 rows:List Row}:∀(l:List Row) (i K:Nat),K<l.length→(z0w s nx rows1 rows i l)[K]? =some (match posI s (i+K) with
 |some j=>renR (fun j=>some (getI s nx j)) (rows1.getD j .dead)
 |none=>renR (z1g s rows) (l.getD K .dead))
 |[],i,K,h=>by simp at h
 |r::l,i,K,h=>by
  cases K with
  |zero=>rfl
  |succ K=>have:=zcv (s:=s) (nx:=nx) (rows1:=rows1) (rows:=rows) l (i+1) K (by simpa using h);rw[show i+1+K=i+(K+1) from by omega] at this;simpa [z0w] using this
theorem z7f {s:List Nat}{nx:Nat}{rows1 rows:List Row}:∀(l:List Row) (i:Nat),(z0w s nx rows1 rows i l).length=l.length
 |[],i=>rfl
 |r::l,i=>by simp[z0w,z7f l (i+1)]
theorem zud {s:List Nat}{nx K:Nat}(h:s.all (fun k=>decide (k<nx))=true)(hK:K∈s):K<nx:=by have:=List.all_eq_true.1 h K hK;simpa using this
def calI (s:List Nat)(nx K:Nat):Option Nat:=match posI s K with
 |some j=>some j
 |none=>if nx≤K then some (s.length+(K - nx)) else none
theorem zjl {s:List Nat}{nx K j:Nat}(h:calI s nx K=some j):getI s nx j=K:=by
 unfold calI at h;split at h
 · rename_i i hi;cases h;exact zjk hi
 · split at h<;>cases h
   unfold getI;rw[List.getElem?_eq_none (by omega)];simp only;omega
theorem zvq {s:List Nat}{nx:Nat}(hf:z13 s s=true)(ha:s.all (fun k=>decide (k<nx))=true)(j:Nat):calI s nx (getI s nx j)=some j:=by
 unfold getI
 cases hj:s[j]? with
 |some K=>simp only;unfold calI;rw[zai hf hj]
 |none=>
  simp only;have hjl:s.length≤j:=List.getElem?_eq_none_iff.1 hj;unfold calI
  cases hp:posI s (nx+(j - s.length)) with
  |some i=>have:=zud ha (List.mem_of_getElem? (z6p hp));omega
  |none=>simp only;rw[if_pos (by omega)];congr 1;omega
theorem zsb {s:List Nat}{rows1 rows:List Row}(ha:s.all (fun k=>decide (k<rows.length))=true)(K:Nat):
 z00 (z0w s rows.length rows1 rows 0 rows++(rows1.drop s.length).map (renR fun j=>some (getI s rows.length j))) K=match calI s rows.length K with
  |some j=>renR (fun j=>some (getI s rows.length j)) (z00 rows1 j)
  |none=>renR (z1g s rows) (z00 rows K):=by
 unfold z00;rw[List.getD_eq_getElem?_getD];by_cases hK:K<rows.length
 · rw[List.getElem?_append_left (by rw[z7f];exact hK),zcv rows 0 K hK];unfold calI;rw[Nat.zero_add]
   cases hp:posI s K with
   |some j=>rfl
   |none=>simp only;rw[if_neg (by omega)];rfl
 · rw[List.getElem?_append_right (by rw[z7f];omega),z7f];unfold calI
   cases hp:posI s K with
   |some j=>have:=zud ha (List.mem_of_getElem? (z6p hp));omega
   |none=>
    simp only;rw[if_pos (by omega)];simp only;rw[List.getElem?_map,List.getElem?_drop]
    cases hr:rows1[s.length+(K - rows.length)]? with
    |some r=>rw[List.getD_eq_getElem?_getD,hr];rfl
    |none=>rw[List.getD_eq_getElem?_getD,hr];rfl
theorem ze5 {K K' k:Nat}(h:Owns I' H' K' k)(hH:H' K'=renR g (H K))(h1:I'.ρ K'=I.ρ K)(h3:I'.ow K'=I.ow K):Owns I H K k:=by
 unfold Owns at h⊢;rw[hH] at h
 cases hK:H K with
 |dead=>rw[hK] at h;exact h.elim
 |fro l=>rw[hK] at h;exact h.elim
 |var cs e=>rw[hK] at h;simp only[renR] at h⊢;rw[h,h1]
 |lst sz l e=>rw[hK] at h;simp only[renR] at h⊢;rw[←h3,h]
theorem zxb (hsp:SpecOk P sp w0 fp){o:Oper}{gf:FuncId}{xs:List Operand}(ho:mcOf sp o=some (gf,xs)){K0:AV→List AV→List Row→Prop}(h:mcU sp rows.length env rows gf (xs.map (evA (envE env))) s K0)(hR:RelS w0 fp S0 I env rows a w):
 ∃v env' rows',K0 v env' rows'∧env'.length=env.length∧∀(Kc:Act→World→Prop) (Q:Exit→Act→World→Prop),(∀I' u w',RelS w0 fp S0 I' (putE env' o.dst v) rows' (a.put o.dst u) w'→Kc (a.put o.dst u) w')→o.wp P a w Kc Q:=by
 unfold mcU at h;obtain⟨hf,ha,h⟩:=h;split at h<;>try exact h.elim
 rename_i c r rows1 hs;obtain⟨hc,hlen,hK0⟩:=h;refine⟨_,_,_,hK0,by simp,fun Kc Q hKc=> ?_⟩;obtain⟨hen,hcon⟩:=hsp.callM _ _ _ _ _ _ hs;obtain⟨I1,hI1⟩:∃I1:Itp,I1=⟨fun j=>I.ρ (getI s rows.length j),fun j=>I.hdr (getI s rows.length j),fun j=>I.ow (getI s rows.length j),I.S⟩:=⟨_,rfl⟩;obtain⟨rowsA,hrA⟩:∃rowsA,(s.map fun k=>renR (posI s) (rows.getD k .dead))=rowsA:=⟨_,rfl⟩;rw[hrA] at hs hcon;have hA:∀K j,posI s K=some j→z00 rowsA j=renR (posI s) (z00 rows K):=fun K j hp=>by unfold z00;rw[←hrA,List.getD_eq_getElem?_getD,List.getElem?_map,z6p hp];rfl
 have hAn:∀j,s[j]? =none→z00 rowsA j=.dead:=fun j hp=>by unfold z00;rw[←hrA,List.getD_eq_getElem?_getD,List.getElem?_map,hp];rfl
 have hgi:∀K j,posI s K=some j→getI s rows.length j=K:=fun K j hp=>zjk hp
 have M1:zny I I1 (z00 rows) (z00 rowsA) (posI s):=fun K j hp=>by
  have h1:=hA K j hp;have h2:=hgi K j hp;subst hI1
  cases hK:z00 rows K with
  |dead=>trivial
  |var cs e=>rw[hK] at h1;simp only[h2];exact⟨⟨_,_,h1⟩,trivial⟩
  |lst sz l e=>rw[hK] at h1;simp only[h2];exact⟨h1,trivial⟩
  |fro l=>rw[hK] at h1;simp only[h2];exact⟨h1,trivial⟩
 have hO1:∀j k,Owns I1 (z00 rowsA) j k→∃K,posI s K=some j∧Owns I (z00 rows) K k:=fun j k hk=>by
  cases hj:s[j]? with
  |none=>unfold Owns at hk;rw[hAn j hj] at hk;exact hk.elim
  |some K=>have hp:=zai hf hj;have h2:=hgi K j hp;exact⟨K,hp,ze5 hk (hA K j hp) (by subst hI1;simp only[h2]) (by subst hI1;simp only[h2])⟩
 have hS1:I1.S=I.S:=by subst hI1;rfl
 have mem1:Mem w (fun k=>∃K j,posI s K=some j∧Owns I (z00 rows) K k) ⟨I.S,[]⟩ I1 (z00 rowsA) w:=by
  refine⟨Fr.refl _ _,fun j=> ?_,fun j k hk=> ?_,fun j j' k h1 h2=> ?_,fun k hk=>hR.mem.slt k (hS1 ▸ hk),fun k hk=>by rw[hS1];exact hk,fun k hk=>.inl (hS1 ▸ hk),fun p hp=>by cases hp⟩
  · cases hj:s[j]? with
    |none=>rw[hAn j hj];trivial
    |some K=>have hp:=zai hf hj;have h2:=hgi K j hp;rw[hA K j hp];exact zhy (fun k hk=>by rw[hS1];exact hk) (fun _ _=>rfl) M1 (hR.mem.rows K) (by subst hI1;simp only[h2]) (by subst hI1;simp only[h2]) (by subst hI1;simp only[h2]) (fun _ _=>rfl)
  · obtain⟨K,hp,hk2⟩:=hO1 j k hk;obtain⟨a1,a2,a3⟩:=hR.mem.own K k hk2;exact⟨a1,by rw[hS1];exact a2,.inl ⟨K,j,hp,hk2⟩⟩
  · obtain⟨K,hp,hk1⟩:=hO1 j k h1;obtain⟨K',hp',hk2⟩:=hO1 j' k h2;have:=hR.mem.sep K K' k hk1 hk2;subst this;rw[hp] at hp';exact Option.some.inj hp'
 obtain⟨cl,hcl,hcc,hxs⟩:∃cl:Call,o.op=.call cl∧cl.callee=.value (.func gf)∧xs=cl.args.toList:=by
  unfold mcOf at ho;split at ho<;>try (cases ho;done)
  rename_i cl hop;split at ho<;>try (cases ho;done)
  rename_i g2 hcal;split at ho<;>cases ho;exact⟨cl,hop,hcal,rfl⟩
 subst hxs;have hex:=zfa (P:=P) (args:=cl.args.map a.eval) (f:=evA (envE env) (.func gf)) (K:=fun g' cap=>g'=gf∧cap=[]) (by show callee (.sc (.func (.func gf) #[] #[])) _;exact⟨rfl,rfl,rfl,rfl⟩) (z2h hR (.func gf));obtain⟨g',cap,cvs,⟨rfl,rfl⟩,hcl2, -,hrun⟩:=hex;have hcvs:cvs=[]:=List.eq_nil_of_length_eq_zero hcl2.symm;subst hcvs;obtain⟨q1,q2⟩:=zn0 hR cl.args.toList
 have hcalls:=hcon hc w hR.mem.fr (fun k=>∃K j,posI s K=some j∧Owns I (z00 rows) K k) I.S I1 (cl.args.toList.map a.eval) (fun k ⟨K,j,_,hk⟩=>(hR.mem.own K k hk).2.2) mem1 (by simp) (fun i x v h1 h2=>by
  rw[List.getElem?_map] at h1
  cases hx:(cl.args.toList.map (evA (envE env)))[i]? with
  |none=>rw[hx] at h1;cases h1
  |some y=>rw[hx] at h1;cases h1;exact z7y (fun k hk=>by rw[hS1];exact hk) (fun _ _=>rfl) M1 3 y v (q2 i y v hx h2))
 unfold Oper.wp execOp;simp only[hcl,Sem.run_bind,resolve,hcc];rw[hrun];simp only[Result.andThen_ok,invoke];rw[z7n hen];have e1:cl.args.map a.eval++([]:List Value).toArray=(cl.args.toList.map a.eval).toArray:=by rw[←Array.toArray_toList (xs:=cl.args.map a.eval++([]:List Value).toArray)];simp
 rw[e1];show Calls P g' _ w _;refine hcalls.mono fun e w' ⟨v,I1',he,m',hv,hpin⟩=> ?_;subst he;clear hcalls hcon hrun;obtain⟨I',hI'⟩:∃I':Itp,I'=⟨fun K=>match calI s rows.length K with|some j=>I1'.ρ j|none=>I.ρ K,fun K=>match calI s rows.length K with|some j=>I1'.hdr j|none=>I.hdr K,fun K=>match calI s rows.length K with|some j=>I1'.ow j|none=>I.ow K,I1'.S⟩:=⟨_,rfl⟩;have hH:=zsb (rows1:=rows1) ha;generalize hrows':z0w s rows.length rows1 rows 0 rows++(rows1.drop s.length).map (renR fun j=>some (getI s rows.length j))=rows' at*;have hS':I'.S=I1'.S:=by subst hI';rfl
 have cS:∀K j,calI s rows.length K=some j→z00 rows' K=renR (fun j=>some (getI s rows.length j)) (z00 rows1 j)∧I'.ρ K=I1'.ρ j∧I'.hdr K=I1'.hdr j∧I'.ow K=I1'.ow j:=fun K j hj=>by have:=hH K;rw[hj] at this;subst hI';exact⟨this,by simp only[hj],by simp only[hj],by simp only[hj]⟩
 have cN:∀K,calI s rows.length K=none→z00 rows' K=renR (z1g s rows) (z00 rows K)∧I'.ρ K=I.ρ K∧I'.hdr K=I.hdr K∧I'.ow K=I.ow K∧posI s K=none:=fun K hj=>by
  have:=hH K;rw[hj] at this
  have hp:posI s K=none:=by
   unfold calI at hj;split at hj
   · cases hj
   · assumption
  subst hI';exact⟨this,by simp only[hj],by simp only[hj],by simp only[hj],hp⟩
 have hsub:∀k,I.S k→I'.S k:=fun k hk=>by rw[hS'];exact m'.s0 k hk
 have hblk:∀k,k<w.heap.size→(∀K j,posI s K=some j→¬Owns I (z00 rows) K k)→w'.heap[k]? =w.heap[k]? :=fun k hk hn=>m'.fr.block k hk (fun⟨K,j,hp,hK⟩=>hn K j hp hK);have hkeep:∀k,I.S k→w'.heap[k]? =w.heap[k]? :=fun k hk=>hblk k (hR.mem.slt k hk) (fun K j _ hK=>(hR.mem.own K k hK).2.1 hk)
 have M2:zny I1' I' (z00 rows1) (z00 rows') (fun j=>some (getI s rows.length j)):=fun j K' hj=>by
  cases hj;obtain⟨h1,h2,h3,h4⟩:=cS _ j (zvq hf ha j)
  cases hK:z00 rows1 j with
  |dead=>trivial
  |var cs e=>rw[hK] at h1;exact⟨⟨_,_,h1⟩,h2⟩
  |lst sz l e=>rw[hK] at h1;exact⟨h1,h3⟩
  |fro l=>rw[hK] at h1;exact⟨h1,h3⟩
 have M3:zny I I' (z00 rows) (z00 rows') (z1g s rows):=fun K K' hj=>by
  unfold z1g at hj;split at hj<;>cases hj;rename_i hcond
  cases hp:posI s K with
  |none=>
   cases hcal:calI s rows.length K with
   |none=>
    obtain⟨h1,h2,h3,h4, -⟩:=cN K hcal
    cases hK:z00 rows K with
    |dead=>trivial
    |var cs e=>rw[hK] at h1;exact⟨⟨_,_,h1⟩,h2⟩
    |lst sz l e=>rw[hK] at h1;exact⟨h1,h3⟩
    |fro l=>rw[hK] at h1;exact⟨h1,h3⟩
   |some j=>
    have hge:rows.length≤K:=by
     unfold calI at hcal;rw[hp] at hcal;simp only at hcal;split at hcal
     · assumption
     · cases hcal
    rw[z30 (by omega)];trivial
  |some j=>
   rw[hp] at hcond
   cases hK:z00 rows K with
   |dead=>trivial
   |lst sz l e=>have:rows.getD K .dead=.lst sz l e:=hK;rw[this] at hcond;simp[z0e] at hcond
   |fro l=>have:rows.getD K .dead=.fro l:=hK;rw[this] at hcond;simp[z0e] at hcond
   |var cs e=>
    have hcal:calI s rows.length K=some j:=by unfold calI;rw[hp]
    obtain⟨h1,h2,h3,h4⟩:=cS K j hcal;have hAj:=hA K j hp;rw[hK] at hAj;obtain⟨g1,cs',e',g2⟩:=hpin j _ _ hAj;rw[g2] at h1;refine⟨⟨_,_,h1⟩, ?_⟩;rw[h2,g1];subst hI1;simp only[hgi K j hp]
 have hO:∀K k,Owns I' (z00 rows') K k→(∃j,calI s rows.length K=some j∧Owns I1' (z00 rows1) j k)∨(calI s rows.length K=none∧posI s K=none∧Owns I (z00 rows) K k):=fun K k hk=>by
  cases hcal:calI s rows.length K with
  |some j=>obtain⟨h1,h2,h3,h4⟩:=cS K j hcal;exact .inl ⟨j,rfl,ze5 hk h1 h2 h4⟩
  |none=>obtain⟨h1,h2,h3,h4,h5⟩:=cN K hcal;exact .inr ⟨rfl,h5,ze5 hk h1 h2 h4⟩
 have memN:Mem w0 fp S0 I' (z00 rows') w':=by
  refine⟨hR.mem.fr.then_ m'.fr (fun k hk ⟨K,j,hp,hK⟩=> ?_),fun K=> ?_,fun K k hk=> ?_,fun K K' k h1 h2=> ?_,fun k hk=>m'.slt k (hS' ▸ hk),fun k hk=>hsub k (hR.mem.s0 k hk),fun k hk=> ?_,fun p hp=> ?_⟩
  · rcases (hR.mem.own K k hK).2.2 with h1|h1
    · exact h1
    · omega
  · cases hcal:calI s rows.length K with
    |some j=>obtain⟨h1,h2,h3,h4⟩:=cS K j hcal;rw[h1];exact zhy (fun k hk=>by rw[hS'];exact hk) (fun _ _=>rfl) M2 (m'.rows j) h2 h3 h4 (fun _ _=>rfl)
    |none=>
     obtain⟨h1,h2,h3,h4,h5⟩:=cN K hcal;rw[h1];refine zhy hsub hkeep M3 (hR.mem.rows K) h2 h3 h4 (fun k hk=> ?_);have hk2:Owns I (z00 rows) K k:=by unfold Owns;cases hK:z00 rows K<;>rw[hK] at hk<;>first|exact hk|exact hk.elim
     refine hblk k (hR.mem.own K k hk2).1 (fun K2 j hp hK2=> ?_);have:=hR.mem.sep K K2 k hk2 hK2;subst this;rw[h5] at hp;cases hp
  · rcases hO K k hk with ⟨j,hj,h1⟩|⟨_,hp,h1⟩
    · obtain⟨a1,a2,a3⟩:=m'.own j k h1;refine⟨a1,by rw[hS'];exact a2, ?_⟩;rcases a3 with ⟨K2,j2,hp2,hK2⟩|a3
      · exact(hR.mem.own K2 k hK2).2.2
      · exact .inr (Nat.le_trans hR.mem.fr.size a3)
    · obtain⟨a1,a2,a3⟩:=hR.mem.own K k h1;refine⟨Nat.lt_of_lt_of_le a1 m'.fr.size,fun hS=> ?_,a3⟩;rw[hS'] at hS;rcases m'.snew k hS with h2|h2
      · exact a2 h2
      · omega
  · have cross:∀K K' k j,calI s rows.length K=some j→Owns I1' (z00 rows1) j k→posI s K'=none→Owns I (z00 rows) K' k→False:=fun K K' k j _ h1 hp h2=>by
     rcases (m'.own j k h1).2.2 with ⟨K2,j2,hp2,hK2⟩|h3
     · have:=hR.mem.sep K' K2 k h2 hK2;subst this;rw[hp] at hp2;cases hp2
     · have:=(hR.mem.own K' k h2).1;omega
    rcases hO K k h1 with ⟨j,hj,g1⟩|⟨_,hp,g1⟩
    · rcases hO K' k h2 with ⟨j',hj',g2⟩|⟨_,hp',g2⟩
      · have:=m'.sep j j' k g1 g2;subst this;rw[←zjl hj,←zjl hj']
      · exact(cross K K' k j hj g1 hp' g2).elim
    · rcases hO K' k h2 with ⟨j',hj',g2⟩|⟨_,hp',g2⟩
      · exact(cross K' K k j' hj' g2 hp g1).elim
      · exact hR.mem.sep K K' k g1 g2
  · rw[hS'] at hk;rcases m'.snew k hk with h2|h2
    · exact hR.mem.snew k h2
    · exact .inr (Nat.le_trans hR.mem.fr.size h2)
  · have h1:=hR.mem.pin p hp;obtain⟨h2,cs,e,hK⟩:=h1.ptr_inv;have hkI:z1g s rows p.1=some p.1:=by unfold z1g;have:rows.getD p.1 .dead=.var cs e:=hK;rw[this];simp[z0e]
    have:=M3 p.1 p.1 hkI;rw[hK] at this;obtain⟨⟨cs',e',h3⟩,h4⟩:=this;rw[h2,←h4];exact .ptr p.1 0 cs' e' h3
 have hR':RelS w0 fp S0 I' (env.map (renO (z1g s rows) 3)) rows' a w':=by
  refine⟨memN,hR.df,by rw[List.length_map];exact hR.size,fun i u hu=> ?_,fun i hi=> ?_⟩
  · have h1:=z7y hsub hkeep M3 3 _ u (hR.env i u hu);have h2:envE (env.map (renO (z1g s rows) 3)) i=renO (z1g s rows) 3 (envE env i):=by unfold envE;rw[List.getD_eq_getElem?_getD,List.getD_eq_getElem?_getD,List.getElem?_map];cases env[i]? <;>rfl
    rw[h2];exact h1
  · unfold envE;rw[List.getD_eq_getElem?_getD,List.getElem?_eq_none hi];rfl
 have hv':=z7y (w':=w') (fun k hk=>by rw[hS'];exact hk) (fun _ _=>rfl) M2 3 r v hv;exact hKc I' v w' (hR'.put memN hv' (fun y u hu=>hu) o.dst)
theorem ze6 (hsp:SpecOk P sp w0 fp){K:List AV→List Row→Prop}{Q:Exit→Act→World→Prop}(hQ:∀I' env' rows' a' w',K env' rows'→env'.length=n→RelS w0 fp S0 I' env' rows' a' w'→Q .normal a' w'):∀(l:List Oper) (env:List AV) (rows:List Row) (I:Itp) (a:Act) (w:World),
 opsM P sp ops l env rows K→env.length=n→RelS w0 fp S0 I env rows a w→wpList P ops Q l a w
 |[],env,rows,I,a,w,h,hn,hR=>hQ I env rows a w h hn hR
 |o::l,env,rows,I,a,w,h,hn,hR=>by
  unfold opsM at h;split at h
  · rename_i g xs hmc;obtain⟨hg,h⟩:=h;refine wpList_step fun Kc hKc=> ?_;rw[if_pos (by unfold Region.wanted;rw[hg])];obtain⟨v,env',rows',h1,h2,h3⟩:=zxb hsp hmc h hR;exact h3 Kc Q (fun I' u w' hR'=>hKc _ _ (ze6 hsp hQ l _ _ I' _ w' h1 (by rw[z2q,h2];exact hn) hR'))
  · obtain⟨env',rows',h1,h2⟩:=zb4 h;have h1:opsM P sp ops l env' rows' K:=h1;refine wpList_step fun Kc hKc=> ?_;rcases h2 with ⟨a1,v,a2,rfl⟩|⟨a1,rfl,rfl⟩
    · rw[if_pos (z2l hR a1)];exact zjf hsp a2 hR (fun I' u w' hR'=>hKc _ _ (ze6 hsp hQ l _ _ I' _ w' h1 (by rw[z2q];exact hn) hR'))
    · rw[if_neg (by rw[z2l hR a1];simp)];exact hKc _ _ (ze6 hsp hQ l _ _ I _ w h1 (by rw[z2q];exact hn) (hR.put hR.mem (.cl _ _ (.sc _)) (fun y u hu=>hu) o.dst))
end
end Go.Proofs.YtnlacmnoocigiaaGreatDoor.Aw
namespace Go.Proofs.YtnlacmnoocigiaaGreatDoor.Aw
open Go.RowKit
def addE (k:Nat)(ops:Array Oper):Array Oper:=ops.mapIdx fun j o=>if k≤j then {o with after:=o.after++((List.range k).map fun i=>(⟨i,.phase⟩:Edge)).toArray} else o
def z2w (n k:Nat):Array Bool:=((List.range n).map fun i=>decide (i<k)).toArray
def zue (o:Oper):Bool:=match o.op with|.move _=>true|_=>false
def znz (k:Nat)(ops:Array Oper):Bool:=decide (k≤ops.size) && Region.noSelect ops && (z7w k fun j=>match ops[j]? with
 |some o=>zue o && o.guard==none && Region.free .any ops (z2w ops.size j) j && (Region.ready .any ops (z2w ops.size j)).contains j
 |none=>false) &&
 let B:=befs (addE k ops).toList []
 z7w ops.size fun j=>decide (j<k)||z7w k fun i=>(B.getD j 0).testBit i
def zo0 (k:Nat)(ms:Fls)(ops:Array Oper):Bool:=if k=0 then zjg ms ops else znz k ops && zjg ms (addE k ops)
section
variable {P : Program} {sp : Spec} {w0 w w' : World} {fp : Nat → Prop} {S0 : Bs} {I I' : Itp} {H H' : Heap} {n nx m p q k : Nat} {E E' : Nat → AV} {a : Act} {env : List AV} {rows : List Row} {ops : Array Oper} {s : Nat → StT} {Q : Exit → Act → World → Prop}
theorem z34 :(addE k ops).size=ops.size:=by unfold addE;simp
theorem z8p (i:Nat):(addE k ops)[i]? =(ops[i]?).map fun o=>if k≤i then {o with after:=o.after++((List.range k).map fun i=>(⟨i,.phase⟩:Edge)).toArray} else o:=by unfold addE;rw[Array.getElem?_mapIdx]
theorem zjm (i:Nat):((addE k ops)[i]?).bind (·.dst)=(ops[i]?).bind (·.dst):=by
 rw[z8p]
 cases ops[i]? with
 |none=>rfl
 |some o=>show (if k≤i then _ else o).dst=o.dst;split<;>rfl
theorem zcw {listed:Array Bool}(h:∀j,j<k→LB listed j):Region.ready .any (addE k ops) listed=Region.ready .any ops listed:=by
 unfold Region.ready;rw[z34];apply List.filter_congr;intro i _;rw[z8p]
 cases ops[i]? with
 |none=>rfl
 |some o=>
  congr 1;show Array.all (if k≤i then _ else o).after _=Array.all o.after _;split
  · show Array.all (o.after++_) _=_;rw[←Array.all_toList,Array.toList_append,List.all_append,←Array.all_toList];have:(List.map (fun i=>(⟨i,.phase⟩:Edge)) (List.range k)).all (fun e=> !Region.binds .any e||listed.getD e.on false)=true:=by rw[List.all_eq_true];intro e he;rw[List.mem_map] at he;obtain⟨j,hj,rfl⟩:=he;have:=h j (List.mem_range.1 hj);unfold LB at this;rw[this,Bool.or_true]
    rw[List.toList_toArray,this,Bool.and_true]
  · rfl
theorem zfk (tmps:Array Value):yielded (addE k ops) tmps=yielded ops tmps:=by funext j;unfold yielded;rw[zjm]
theorem zo1 {i:Nat}{K:Act→World→Prop}(h:wpOp P (addE k ops) Q i K a w):wpOp P ops Q i K a w:=by
 unfold wpOp at*;rw[z8p,zfk] at h
 cases ho:ops[i]? with
 |none=>rw[ho] at h;exact h
 |some o=>
  rw[ho] at h;simp only[Option.map_some] at h⊢;split at h
  · exact h
  · exact h
theorem zcx :∀(fuel:Nat) (listed:Array Bool) (a:Act) (w:World),(∀j,j<k→LB listed j)→wpAny P .any (addE k ops) Q fuel listed a w→wpAny P .any ops Q fuel listed a w
 |0,listed,a,w,hl,h=>by unfold wpAny at*;rw[zcw hl] at h;exact h
 |fuel+1,listed,a,w,hl,h=>by
  unfold wpAny at*;rw[zcw hl] at h;refine⟨h.1,fun i hi=>wpOp_mono (fun a w hh=>zcx fuel _ a w (fun j hj=> ?_) hh) (zo1 (h.2 i hi))⟩;have:=hl j hj;unfold LB at*;rw[Array.getD_eq_getD_getElem?] at*;rw[Array.getElem?_setIfInBounds];split
  · rename_i e;subst e;split
    · rfl
    · rename_i hh;rw[Array.getElem?_eq_none (by omega)] at this;exact this
  · exact this
theorem zlf {i:Nat}{st st':StT}(h:z6h P sp ops i st st'):z6h P sp (addE k ops) i st st':=by
 obtain⟨o,ho,h⟩:=h;refine⟨_,by rw[z8p,ho];rfl, ?_⟩
 have hw:∀b,Wn ops o (envE st.1) b→Wn (addE k ops) (if k≤i then {o with after:=o.after++((List.range k).map fun i=>(⟨i,.phase⟩:Edge)).toArray} else o) (envE st.1) b:=fun b hb=>by
  unfold Wn at*;have hg:(if k≤i then {o with after:=o.after++((List.range k).map fun i=>(⟨i,.phase⟩:Edge)).toArray} else o).guard=o.guard:=by split<;>rfl
  rw[hg]
  cases hgo:o.guard with
  |none=>rw[hgo] at hb;exact hb
  |some jw=>obtain⟨j,want⟩:=jw;rw[hgo] at hb;simp only at hb⊢;rw[zjm];exact hb
 rcases h with ⟨h1,v,h2,h3⟩|⟨h1,h2⟩
 · refine .inl ⟨hw true h1,v, ?_, ?_⟩
   · split<;>exact h2
   · split<;>exact h3
 · refine .inr ⟨hw false h1, ?_⟩;split<;>exact h2
theorem zjn :∀{ks:List Nat},rck P sp ops env rows ks→rck P sp (addE k ops) env rows ks
 |[],h=>h
 |j::ks,h=>by
  unfold rck at*;refine⟨?_,zjn h.2⟩;have h1:=h.1;rw[z8p]
  cases ho:ops[j]? with
  |none=>rw[ho] at h1;exact h1
  |some o=>
   rw[ho] at h1;by_cases hk:k≤j
   · simp only[Option.map_some,if_pos hk] at h1⊢;exact h1
   · simp only[Option.map_some,if_neg hk] at h1⊢;exact h1
theorem z7z {n k:Nat}:(z2w n k).size=n:=by unfold z2w;simp
theorem z3h {n k:Nat}(i:Nat):LB (z2w n k) i↔i<n∧i<k:=by
 unfold LB z2w;rw[Array.getD_eq_getD_getElem?,List.getElem?_toArray,List.getElem?_map];by_cases h:i<n
 · rw[List.getElem?_range h];simp[h]
 · rw[List.getElem?_eq_none (by simpa using h)];simp[h]
theorem zhz {n:Nat}:z2w n 0=Array.replicate n false:=by
 unfold z2w;apply Array.ext
 · simp
 · intro i h1 h2;simp
theorem zi0 {n k:Nat}:(z2w n k).setIfInBounds k true=z2w n (k+1):=by
 apply Array.ext_getElem?;intro i;rw[Array.getElem?_setIfInBounds];unfold z2w;simp only[List.getElem?_toArray,List.getElem?_map,List.size_toArray,List.length_map,List.length_range];by_cases h:i<n
 · rw[List.getElem?_range h];by_cases e:k=i
   · subst e;simp[h]
   · rw[if_neg e];simp only[Option.map_some,Option.some.injEq,decide_eq_decide];omega
 · rw[List.getElem?_eq_none (by simpa using h)];by_cases e:k=i
   · subst e;simp[h]
   · rw[if_neg e];rfl
theorem zlg (hsp:SpecOk P sp w0 fp){ms:Fls}(hk:0<k)(hd:zo0 k ms ops=true)(hst:∀i,i<ops.size→z6h P sp ops i (s i) (s (i+1)))(hr:∀m ks,(m,ks)∈ms→rck P sp ops (s (m+1)).1 (s (m+1)).2 ks)(hlen:∀i,i≤ops.size→(s i).1.length=n)
 (hQ:∀I' a' w',Rel w0 fp S0 I' n (envE (s ops.size).1) (z00 (s ops.size).2) a' w'→Q .normal a' w') (hp:∀c a w,¬Q (.panic c) a w) (hR:Rel w0 fp S0 I n (envE (s 0).1) (z00 (s 0).2) a w):wpAny P .any ops Q ops.size (Array.replicate ops.size false) a w:=by
 unfold zo0 at hd;rw[if_neg (by omega),Bool.and_eq_true] at hd;obtain⟨he,hd⟩:=hd;have hD:=z8o hd;unfold znz at he;simp only[Bool.and_eq_true,decide_eq_true_eq] at he;obtain⟨⟨⟨e1,e2⟩,e3⟩,e4⟩:=he;have e3:=allLt_iff.1 e3;have e4:=allLt_iff.1 e4
 have key:∀(d j:Nat) (I:Itp) (a:Act) (w:World),j+d=k→Rel w0 fp S0 I n (envE (s j).1) (z00 (s j).2) a w→wpAny P .any ops Q (ops.size - j) (z2w ops.size j) a w:=by
  intro d
  induction d with
  |zero=>
   intro j I a w hj hR;obtain rfl:j=k:=by omega
   refine zcx (k:=j) _ _ a w (fun i hi=>(z3h i).2 ⟨by omega,hi⟩) ?_;refine znx (s:=s) (n:=n) (w0:=w0) (fp:=fp) (S0:=S0) hsp hD (fun i hi=>zlf (hst i (by rw[z34] at hi;exact hi))) (fun m ks h=>zjn (hr m ks h)) (fun i hi=>hlen i (by rw[z34] at hi;exact hi)) (by rw[z34];exact hQ) _ _ a w ⟨⟨j,j,I,Nat.le_refl _,by rw[z34];exact e1,fun i h1 h2=>by omega,fun i h=>(z3h i).2 ⟨by omega,h⟩,.inl ⟨fun i j' h1 h2 h3=> ?_,fun i h1 h2=> ?_, ?_⟩⟩,fun j' o ho h e he hb=> ?_,by rw[z7z,z34]⟩ ?_
   · rw[z34] at h3;have:=e4 j' h3;rw[Bool.or_eq_true,decide_eq_true_eq] at this;exact allLt_iff.1 (this.resolve_left (by omega)) i h1
   · have:=((z3h i).1 h2).2;omega
   · rw[zb8 (fun i h1 h2=>by omega),ze3 (fun i h1 h2=>by omega)];exact hR
   · have h1:=hD.edge j' o ho e he hb;have h2:=(z3h j').1 h;exact(z3h _).2 ⟨by omega,by omega⟩
   · unfold cntU;rw[z34]
     have hcount:∀n k,k≤n→((List.range n).filter fun i=> !(z2w n k).getD i true).length≤n - k:=by
      intro n k hkn
      have hf:((List.range n).filter fun i=> !(z2w n k).getD i true)=(List.range n).drop k:=by
       have hsplit:List.range n=(List.range n).take k++(List.range n).drop k:=(List.take_append_drop k _).symm;rw[hsplit,List.filter_append]
       have h1:((List.range n).take k).filter (fun i=> !(z2w n k).getD i true)=[]:=by
        rw[List.filter_eq_nil_iff];intro i hi;rw[List.take_range,List.mem_range] at hi;have:LB (z2w n k) i:=(z3h i).2 ⟨by omega,by omega⟩;unfold LB at this;rw[Array.getD_eq_getD_getElem?] at this⊢;have hsz:i<(z2w n k).size:=by rw[z7z];omega
        rw[Array.getElem?_eq_getElem hsz] at this⊢;simpa using this
       have h2:((List.range n).drop k).filter (fun i=> !(z2w n k).getD i true)=(List.range n).drop k:=by
        rw[List.filter_eq_self];intro i hi;obtain⟨x,hx,rfl⟩:=List.getElem_of_mem hi;rw[List.getElem_drop,List.getElem_range];simp only[List.length_drop,List.length_range] at hx;have hsz:k+x<(z2w n k).size:=by rw[z7z];omega
        have:¬LB (z2w n k) (k+x):=fun h=>by have:=((z3h _).1 h).2;omega
        unfold LB at this;rw[Array.getD_eq_getD_getElem?] at this⊢;rw[Array.getElem?_eq_getElem hsz] at this⊢;simpa using this
       rw[h1,h2,List.nil_append,←hsplit]
      rw[hf,List.length_drop,List.length_range];exact Nat.le_refl _
     exact hcount ops.size j e1
  |succ d ih=>
   intro j I a w hj hR;have hjk:j<k:=by omega
   have h3:=e3 j hjk
   cases ho:ops[j]? with
   |none=>rw[ho] at h3;cases h3
   |some o=>
    rw[ho] at h3;simp only[Bool.and_eq_true] at h3;obtain⟨⟨⟨m1,m2⟩,m3⟩,m4⟩:=h3;have hg:o.guard=none:=by simpa using m2
    unfold zue at m1;split at m1<;>try (cases m1;done)
    rename_i x hop;rw[show ops.size - j=(ops.size - (j+1))+1 by omega];refine wpAny_take (v:=a.eval x) ho e2 m3 m4 (fun c a w h=>absurd h (hp c _ w)) (.inl ⟨by unfold Region.wanted;rw[hg],fun w=>by unfold execOp;rw[hop];rfl⟩) ?_;rw[zi0];obtain⟨o',ho',h1⟩:=hst j (by omega);rw[ho] at ho';cases ho';have hW:∀b,Wn ops o (envE (s j).1) b→b=true:=fun b hb=>by unfold Wn at hb;rw[hg] at hb;exact hb
    rcases h1 with ⟨-,v,h2,h4⟩|⟨h1, -⟩
    · have h5:v=evA (envE (s j).1) x∧(s (j+1)).2=(s j).2:=by unfold opW qW valW at h2;rw[hop] at h2;simp only at h2;exact⟨h2.1.symm,by rw[←h2.2,List.append_nil]⟩
      refine ih (j+1) I _ w (by omega) ?_;have hR2:RelS w0 fp S0 I (s j).1 (s j).2 a w:=by unfold RelS;rw[hlen j (by omega)];exact hR
      have:=hR2.put (x:=v) (v:=a.eval x) hR2.mem (by rw[h5.1];exact z2h hR2 x) (fun y u h=>h) o.dst;unfold RelS at this;rw[z2q,hlen j (by omega)] at this;rw[h4,h5.2];exact this
    · exact absurd (hW false h1) (by simp)
 have:=key k 0 I a w (by omega) hR;rw[zhz,Nat.sub_zero] at this;exact this
end
end Go.Proofs.YtnlacmnoocigiaaGreatDoor.Aw
namespace Go.Proofs.YtnlacmnoocigiaaGreatDoor.Aw
open Go.RowKit
def z3b (o:Oper):Bool:=z6o o||(match o.op with|.call c=>(match c.callee with|.builtin .len=>true|_=>false)|.build .. =>true|_=>false)
def hrOp (o:Oper):Bool:=match o.op with
 |.load .. |.indexAddr .. |.fieldAddr .. |.nilCheck .. |.slice .. |.call .. |.build .. =>true
 |_=>false
def zsc (ms:Fls)(ops:Array Oper)(i k:Nat)(o:Oper):Bool:=(ms.any fun(m,ks)=>m==i && ks.contains k) && o.guard==none && o.dst.isSome && (looksAt ops o).all fun t=>z7w ops.size fun j=> !(decide (k≤j) && decide (j≤i))||(match ops[j]? with|none=>false|some oj=>oj.dst !=some t)
def zvr (ms:Fls)(ops:Array Oper):Bool:=
 okMs ops.size 0 ms &&
 let n:=ops.size
 let B:=befs ops.toList []
 let bef (i j:Nat):Bool:=(B.getD j 0).testBit i
 z7w n fun i=>match ops[i]? with
  |none=>false
  |some o=>
   (match o.op with|.select .. =>false|_=>true) && o.after.all (fun e=> !Region.binds .any e||decide (e.on<i)) &&
   z7w n fun k=>k==i||match ops[k]? with
    |none=>false
    |some o'=>
     (match o'.dst with
     |none=>true
     |some t=>o.dst !=some t && (!(looksAt ops o).contains t||bef k i||bef i k)) &&
     (z3b o||(if z3b o'=true then(!hrOp o'||(if k<i then bef k i||zsc ms ops i k o' else bef i k)) else(bef k i||bef i k)))
structure DrawT (ms:Fls)(ops:Array Oper):Prop where
 okms:okMs ops.size 0 ms=true
 sel:∀(m:Nat) (o:Oper) cs b,ops[m]? =some o→o.op≠.select cs b
 edge:∀(m:Nat) (o:Oper),ops[m]? =some o→∀e∈o.after,Region.binds .any e=true→e.on<m
 uniq:∀(i k:Nat) (o o':Oper) (t:Tmp),ops[i]? =some o→ops[k]? =some o'→i≠k→o'.dst=some t→o.dst≠some t
 look:∀(i k:Nat) (o o':Oper) (t:Tmp),ops[i]? =some o→ops[k]? =some o'→i≠k→o'.dst=some t→t∈o.looksAt ops→Bef ops k i∨Bef ops i k
 spine:∀(i k:Nat) (o o':Oper),ops[i]? =some o→ops[k]? =some o'→i≠k→z3b o=false→z3b o'=false→Bef ops k i∨Bef ops i k
 late:∀(i k:Nat) (o o':Oper),ops[i]? =some o→ops[k]? =some o'→z3b o=false→z3b o'=true→hrOp o'=true→i<k→Bef ops i k
 lag:∀(i k:Nat) (o o':Oper),ops[i]? =some o→ops[k]? =some o'→z3b o=false→z3b o'=true→hrOp o'=true→k<i→Bef ops k i∨zsc ms ops i k o'=true
section
variable {P : Program} {sp : Spec} {w0 w w' : World} {fp : Nat → Prop} {S0 : Bs} {I I' : Itp} {H H' : Heap} {n nx m p q k : Nat} {E E' : Nat → AV} {a : Act} {env : List AV} {rows : List Row} {ops : Array Oper} {s : Nat → StT} {Q : Exit → Act → World → Prop} {ms : Fls}
theorem zjo (h:zvr ms ops=true):DrawT ms ops:=by
 unfold zvr at h;rw[Bool.and_eq_true] at h;obtain⟨h0,h⟩:=h;have h:=allLt_iff.1 h
 have row:∀i o,ops[i]? =some o→(match o.op with|.select .. =>false|_=>true)=true∧o.after.all (fun e=> !Region.binds .any e||decide (e.on<i))=true∧∀k o',ops[k]? =some o'→i≠k→
  (match o'.dst with|none=>true|some t=>o.dst !=some t && (!(looksAt ops o).contains t||((befs ops.toList []).getD i 0).testBit k||((befs ops.toList []).getD k 0).testBit i))=true∧
  (z3b o||(if z3b o'=true then(!hrOp o'||(if k<i then((befs ops.toList []).getD i 0).testBit k||zsc ms ops i k o' else((befs ops.toList []).getD k 0).testBit i)) else(((befs ops.toList []).getD i 0).testBit k||((befs ops.toList []).getD k 0).testBit i)))=true:=fun i o ho=>by
  have hi:=h i (Array.getElem?_eq_some_iff.1 ho).1;rw[ho] at hi;simp only[Bool.and_eq_true] at hi;obtain⟨⟨h1,h2⟩,h3⟩:=hi;refine⟨h1,h2,fun k o' hk hne=> ?_⟩;have hk':=allLt_iff.1 h3 k (Array.getElem?_eq_some_iff.1 hk).1;rw[hk] at hk';have hne':(k==i)=false:=by rw[beq_eq_false_iff_ne];exact fun e=>hne e.symm
  rw[hne',Bool.false_or] at hk';simp only[Bool.and_eq_true] at hk';exact hk'
 refine⟨h0,fun m o cs b ho e=> ?_,fun m o ho e he hb=> ?_,fun i k o o' t ho hk hne hd=> ?_,fun i k o o' t ho hk hne hd ht=> ?_,fun i k o o' ho hk hne h1 h2=> ?_,fun i k o o' ho hk h1 h2 h3 hlt=> ?_,fun i k o o' ho hk h1 h2 h3 hlt=> ?_⟩
 · have:=(row m o ho).1;rw[e] at this;cases this
 · have:=(row m o ho).2.1;rw[Array.all_eq_true'] at this;have:=this e he;rw[hb] at this;simpa using this
 · have:=((row i o ho).2.2 k o' hk hne).1;rw[hd] at this;simp only[Bool.and_eq_true,bne_iff_ne,ne_eq] at this;exact this.1
 · have:=((row i o ho).2.2 k o' hk hne).1;rw[hd] at this;simp only[Bool.and_eq_true,Bool.or_eq_true,Bool.not_eq_true'] at this;rcases this.2 with (h1|h1)|h1
   · have:(looksAt ops o).contains t=true:=by rw[List.contains_iff_mem];exact ht
     rw[this] at h1;cases h1
   · exact .inl h1
   · exact .inr h1
 · have:=((row i o ho).2.2 k o' hk hne).2;rw[h1,Bool.false_or,if_neg (by rw[h2];simp),Bool.or_eq_true] at this;exact this
 · have:=((row i o ho).2.2 k o' hk (by omega)).2;rw[h1,Bool.false_or,if_pos h2,h3,Bool.not_true,Bool.false_or,if_neg (by omega)] at this;exact this
 · have:=((row i o ho).2.2 k o' hk (by omega)).2;rw[h1,Bool.false_or,if_pos h2,h3,Bool.not_true,Bool.false_or,if_pos hlt,Bool.or_eq_true] at this;exact this
theorem Bef.ltT (hd:DrawT ms ops){i j:Nat}(hj:j<ops.size)(h:Bef ops i j):i<j:=by refine h.listed (L:=(· <j)) (fun k o hk hkj e he hb=> ?_) (Array.getElem?_eq_getElem hj) (fun e he hb=>hd.edge j _ (Array.getElem?_eq_getElem hj) e he hb);have:=hd.edge k o hk e he hb;show e.on<j;have hkj:k<j:=hkj;omega
theorem DrawT.wr (hd:DrawT ms ops){t:Tmp}{k k':Nat}(h:WrT ops k t)(h':WrT ops k' t):k=k':=by obtain⟨o1,h1,h2⟩:=h;obtain⟨o2,h3,h4⟩:=h';apply Decidable.byContradiction;intro hne;exact hd.uniq k k' o1 o2 t h1 h3 hne h4 h2
section
variable (hst : ∀ i, i < ops.size → z6h P sp ops i (s i) (s (i + 1)))
include hst
theorem zjp {t:Tmp}:∀(d i:Nat),i+d≤ops.size→(∀k,i≤k→k<i+d→¬WrT ops k t)→envE (s (i+d)).1 t=envE (s i).1 t
 |0,i,h1,h3=>rfl
 |d+1,i,h1,h3=>by
  rw[←zjp d i (by omega) (fun k h4 h5=>h3 k h4 (by omega))];obtain⟨o,ho,h⟩:=hst (i+d) (by omega);have hne:¬o.dst=some t:=fun e=>h3 (i+d) (by omega) (by omega) ⟨o,ho,e⟩;rw[show i+(d+1)=i+d+1 from rfl];rcases h with ⟨-,v, -,h⟩|⟨-,h⟩
  · rw[h,z44,if_neg (fun h=>hne h.1)]
  · rw[h,z44,if_neg (fun h=>hne h.1)]
theorem z2m {t:Tmp}{i j:Nat}(h2:i≤j)(h3:j≤ops.size)(h4:∀k,i≤k→k<j→¬WrT ops k t):envE (s j).1 t=envE (s i).1 t:=by obtain⟨d,rfl⟩:∃d,j=i+d:=⟨j - i,by omega⟩;exact zjp hst d i h3 h4
theorem zxc (hd:DrawT ms ops){L:Nat→Prop}(hL:z6c ops L){i:Nat}{o:Oper}(ho:ops[i]? =some o)(hni:¬L i)(hdep:∀e∈o.after,Region.binds .any e=true→L e.on){t:Tmp}(ht:t∈o.looksAt ops):
 ES ops s 0 ops.size L t=envE (s i).1 t:=by
 have hi:i<ops.size:=(Array.getElem?_eq_some_iff.1 ho).1;unfold ES;by_cases hw:∃k,k<ops.size∧WrT ops k t
 · obtain⟨k,hk2,hk⟩:=hw;by_cases hki:k=i
   · subst hki;rw[if_neg (fun⟨k',h1,h2,h3,h4⟩=>hni (hd.wr h4 hk ▸ h3))];exact(z2m hst (Nat.zero_le _) (by omega) (fun k' h1 h2 h3=>by have:=hd.wr h3 hk;omega)).symm
   · obtain⟨ok,hok,hkd⟩:=hk;rcases hd.look i k o ok t ho hok (fun e=>hki e.symm) hkd ht with hb|hb
     · have hLk:=hb.listed hL ho hdep;have hlt:=hb.ltT hd hi;rw[if_pos ⟨k,Nat.zero_le _,hk2,hLk,ok,hok,hkd⟩];rw[z2m (j:=ops.size) hst (i:=k+1) (by omega) (Nat.le_refl _) (fun k' h1 h2 h3=>by have:=hd.wr h3 ⟨ok,hok,hkd⟩;omega)];exact(z2m hst (i:=k+1) (by omega) (by omega) (fun k' h1 h2 h3=>by have:=hd.wr h3 ⟨ok,hok,hkd⟩;omega)).symm
     · have hnk:¬L k:=fun h=>hni (hb.listed hL hok (fun e he hb=>hL k ok hok h e he hb));have hlt:=hb.ltT hd (Array.getElem?_eq_some_iff.1 hok).1;rw[if_neg (fun⟨k',h1,h2,h3,h4⟩=>hnk (hd.wr h4 ⟨ok,hok,hkd⟩ ▸ h3))];exact(z2m hst (Nat.zero_le _) (by omega) (fun k' h1 h2 h3=>by have:=hd.wr h3 ⟨ok,hok,hkd⟩;omega)).symm
 · rw[if_neg (fun⟨k',h1,h2,h3,h4⟩=>hw ⟨k',h2,h4⟩)];exact(z2m hst (Nat.zero_le _) (by omega) (fun k' h1 h2 h3=>hw ⟨k',by omega,h3⟩)).symm
theorem zi1 (hd:DrawT ms ops){L:Nat→Prop}{i:Nat}{o:Oper}(ho:ops[i]? =some o)(hni:¬L i){x:AV}(hx:(s (i+1)).1=putE (s i).1 o.dst x){L':Nat→Prop}(hL':∀k,L' k↔L k∨k=i)(hn:(s i).1.length=n)(t:Nat):
 ES ops s 0 ops.size L' t=if o.dst=some t∧t<n then x else ES ops s 0 ops.size L t:=by
 have hi:i<ops.size:=(Array.getElem?_eq_some_iff.1 ho).1;unfold ES;by_cases hdt:o.dst=some t
 · have hw:WrT ops i t:=⟨o,ho,hdt⟩;rw[if_pos ⟨i,Nat.zero_le _,hi,(hL' i).2 (.inr rfl),hw⟩];rw[if_neg (show ¬∃k,0≤k∧k<ops.size∧L k∧WrT ops k t from fun⟨k,h1,h2,h3,h4⟩=>hni (hd.wr h4 hw ▸ h3))];rw[z2m (j:=ops.size) hst (i:=i+1) (by omega) (Nat.le_refl _) (fun k' h1 h2 h3=>by have:=hd.wr h3 hw;omega),hx,z44,hn];split
   · rfl
   · exact z2m hst (Nat.zero_le _) (by omega) (fun k' h1 h2 h3=>by have:=hd.wr h3 hw;omega)
 · refine Eq.trans ?_ (if_neg (fun h=>hdt h.1)).symm
   have:(∃k,0≤k∧k<ops.size∧L' k∧WrT ops k t)↔∃k,0≤k∧k<ops.size∧L k∧WrT ops k t:=by
    constructor
    · rintro⟨k,h1,h2,h3,h4⟩;rcases (hL' k).1 h3 with h3|rfl
      · exact⟨k,h1,h2,h3,h4⟩
      · obtain⟨o',ho',hd'⟩:=h4;rw[ho] at ho';cases ho';exact absurd hd' hdt
    · rintro⟨k,h1,h2,h3,h4⟩;exact⟨k,h1,h2,(hL' k).2 (.inl h3),h4⟩
   by_cases hex:∃k,0≤k∧k<ops.size∧L k∧WrT ops k t
   · rw[if_pos hex,if_pos (this.2 hex)]
   · rw[if_neg hex,if_neg (fun h=>hex (this.1 h))]
theorem zsd {L:Nat→Prop}(h:∀i,i<ops.size→L i):ES ops s 0 ops.size L=envE (s ops.size).1:=by
 funext t;unfold ES;split
 · rfl
 · rename_i hn;exact(z2m hst (Nat.zero_le _) (Nat.le_refl _) (fun k h1 h2 h3=>hn ⟨k,h1,h2,h k h2,h3⟩)).symm
end
theorem zvs {nx nx':Nat}{e:Operand→AV}{H:Heap}{o:Oper}{K:AV→List Row→Prop}(hp:z3b o=true)(h:qW P sp nx e H o K):∃v,K v []∧qW P sp nx' e H o fun v' new'=>v'=v∧new'=[]:=by
 unfold z3b at hp;rw[Bool.or_eq_true] at hp;rcases hp with hp|hp
 · obtain⟨r,h1,h2⟩:=z7d (ze4 hp h)
   exact⟨r,h1,zji hp (by
    have:(fun v=>v=r)=fun v=>v=r∧([]:List Row)=[]:=by funext v;simp
    rw[←this];exact h2)⟩
 · unfold qW at h⊢;split at hp<;>try (cases hp;done)
   · rename_i c hc;split at hp<;>try (cases hp;done)
     rename_i hb;rw[hc] at h⊢;simp only[hb] at h⊢;obtain⟨r,h1,h2⟩:=z7d h;refine⟨r,h1, ?_⟩;simp only[and_true];exact h2
   · rename_i t parts hc;rw[hc] at h⊢;simp only at h⊢;obtain⟨r,h1,h2⟩:=z99 h;refine⟨r,h1, ?_⟩;simp only[and_true];exact h2
theorem zy7 {nx:Nat}{e:Operand→AV}{H:Heap}{o:Oper}{v:AV}(hp:z3b o=true)(h:valW P sp H e o.op (· =v)):qW P sp nx e H o fun v' new'=>v'=v∧new'=[]:=by
 have heq:(fun x=>x=v)=fun x=>x=v∧([]:List Row)=[]:=by funext x;simp
 unfold z3b at hp;rw[Bool.or_eq_true] at hp;rcases hp with hp|hp
 · exact zji hp (by rw[←heq];exact h)
 · split at hp<;>try (cases hp;done)
   · rename_i c hc;split at hp<;>try (cases hp;done)
     rename_i hb;unfold qW;rw[hc] at h⊢;simp only[hb,and_true];exact h
   · rename_i t parts hc;rw[hc] at h;exact h.elim
theorem zfl {nx:Nat}{o:Oper}{K:AV→List Row→Prop}(hp:z3b o=true)(h:opW P sp env rows o K):∃v,K v rows∧qW P sp nx (evA (envE env)) (z00 rows) o fun v' new'=>v'=v∧new'=[]:=by
 have key:(qW P sp rows.length (evA (envE env)) (z00 rows) o fun v new=>K v (rows++new))→∃v,K v rows∧qW P sp nx (evA (envE env)) (z00 rows) o fun v' new'=>v'=v∧new'=[]:=fun h=>by obtain⟨v,h1,h2⟩:=zvs (nx':=nx) hp h;exact⟨v,by rw[List.append_nil] at h1;exact h1,h2⟩
 unfold opW at h;split at h
 · rename_i ho;unfold z3b z6o at hp;rw[ho] at hp;cases hp
 · rename_i c ho;split at h
   · rename_i hb;unfold z3b z6o at hp;rw[ho] at hp;simp only[hb] at hp;cases hp
   · exact key h
 · exact key h
theorem zvt {nx:Nat}{e:Operand→AV}{o:Oper}(hp:z3b o=true)(hh:hrOp o=false){K:AV→List Row→Prop}(h:qW P sp nx e H o K):qW P sp nx e H' o K:=by
 have hpo:z6o o=true:=by
  unfold z3b at hp;rw[Bool.or_eq_true] at hp;refine hp.resolve_right (fun hp=> ?_);unfold hrOp at hh;split at hp<;>try (cases hp;done)
  · rename_i c hc;rw[hc] at hh;cases hh
  · rename_i t parts hc;rw[hc] at hh;cases hh
 have h1:=ze4 hpo h;refine zji hpo ?_;generalize hop:o.op=op at*;unfold hrOp at hh;rw[hop] at hh;unfold valW at*;split at h1<;>first|exact h1|exact h1.elim|cases hh
theorem zo2 {env':List AV}{o:Oper}{K:AV→List Row→Prop}(he:∀x∈o.op.operands,evA (envE env') x=evA (envE env) x)(ha:∀f,∀x∈o.op.operands,z19 (z00 rows) f (evA (envE env') x))(h:opW P sp env rows o K):opW P sp env' rows o K:=by
 have key:∀K:AV→List Row→Prop,qW P sp rows.length (evA (envE env)) (z00 rows) o K→qW P sp rows.length (evA (envE env')) (z00 rows) o K:=fun K h=>ze0 (fun K _ _=>rfl) he ha h;unfold opW at*;split at h
 · rename_i t p x ho;rw[ho] at he;simp only[Op.operands,Array.mem_def] at he;rw[he p (by simp),he x (by simp)];exact h
 · rename_i c ho;split at h
   · rename_i hb;split at h<;>try exact h.elim
     rename_i s x t t' hargs hty;rw[ho] at he;have hin:∀y∈c.args.toList,y∈(Op.call c).operands:=fun y hy=>by simp only[Op.operands,Call.operands,Array.mem_def,Array.toList_append,List.mem_append];exact .inr hy
     rw[he s (hin s (by rw[hargs];simp)),he x (hin x (by rw[hargs];simp))];exact h
   · exact key _ h
 · exact key _ h
def Spn (ops:Array Oper)(m:Nat):Prop:=∃o,ops[m]? =some o∧z3b o=false
theorem zjq (b:Nat)(hb:b≤ops.size):∃h,b≤h∧h≤ops.size∧(h<ops.size→Spn ops h)∧∀m,b≤m→m<h→¬Spn ops m:=by
 have key:∀d b,b+d=ops.size→∃h,b≤h∧h≤ops.size∧(h<ops.size→Spn ops h)∧∀m,b≤m→m<h→¬Spn ops m:=by
  intro d
  induction d with
  |zero=>intro b hb;exact⟨b,Nat.le_refl _,by omega,fun h=>by omega,fun m h1 h2=>by omega⟩
  |succ d ih=>
   intro b hb;by_cases hs:Spn ops b
   · exact⟨b,Nat.le_refl _,by omega,fun _=>hs,fun m h1 h2=>by omega⟩
   · obtain⟨h,h1,h2,h3,h4⟩:=ih (b+1) (by omega)
     exact⟨h,by omega,h2,h3,fun m m1 m2=>by
      by_cases e:m=b
      · rw[e];exact hs
      · exact h4 m (by omega) m2⟩
 exact key (ops.size - b) b (by omega)
theorem zo3 (hst:∀i,i<ops.size→z6h P sp ops i (s i) (s (i+1))){i:Nat}(hi:i<ops.size)(hn:¬Spn ops i):(s (i+1)).2=(s i).2:=by
 obtain⟨o,ho,h⟩:=hst i hi
 have hp:z3b o=true:=by
  cases hp:z3b o with
  |true=>rfl
  |false=>exact absurd ⟨o,ho,hp⟩ hn
 rcases h with ⟨-,v,h, -⟩|⟨-,h⟩
 · obtain⟨r,h1,h2⟩:=zfl (nx:=0) hp h;exact h1.2.symm
 · rw[h]
theorem zcy (hst:∀i,i<ops.size→z6h P sp ops i (s i) (s (i+1))):∀(d b:Nat),b+d≤ops.size→(∀m,b≤m→m<b+d→¬Spn ops m)→(s (b+d)).2=(s b).2
 |0,b,h,hn=>rfl
 |d+1,b,h,hn=>by rw[←zcy hst d b (by omega) (fun m h1 h2=>hn m h1 (by omega))];exact zo3 hst (i:=b+d) (by omega) (hn (b+d) (by omega) (by omega))
theorem z5y (hst:∀i,i<ops.size→z6h P sp ops i (s i) (s (i+1))){b h:Nat}(hbh:b≤h)(hh:h≤ops.size)(hn:∀m,b≤m→m<h→¬Spn ops m):(s h).2=(s b).2:=by obtain⟨d,rfl⟩:∃d,h=b+d:=⟨h - b,by omega⟩;exact zcy hst d b hh hn
theorem zjr (b:Nat):∀h,b≤h→(∀m,b≤m→m<h→¬Spn ops m)∨∃m,b≤m∧m<h∧Spn ops m∧∀m',m<m'→m'<h→¬Spn ops m'
 |0,hb=>.inl (fun m h1 h2=>by omega)
 |h+1,hb=>by
  by_cases e:b=h+1
  · exact .inl (fun m h1 h2=>by omega)
  by_cases hs:Spn ops h
  · exact .inr ⟨h,by omega,Nat.lt_succ_self _,hs,fun m' h1 h2=>by omega⟩
  · rcases zjr b h (by omega) with h1|⟨m,h1,h2,h3,h4⟩
    · exact .inl (fun m m1 m2=>by
       by_cases e:m=h
       · rw[e];exact hs
       · exact h1 m m1 (by omega))
    · exact .inr ⟨m,h1,by omega,h3,fun m' m1 m2=>by
       by_cases e:m'=h
       · rw[e];exact hs
       · exact h4 m' m1 (by omega)⟩
theorem zo4 (hd:DrawT ms ops)(hst:∀i,i<ops.size→z6h P sp ops i (s i) (s (i+1)))(hr:∀m ks,(m,ks)∈ms→rck P sp ops (s (m+1)).1 (s (m+1)).2 ks)(hlen:∀i,i≤ops.size→(s i).1.length=n){L:Nat→Prop}(hL:z6c ops L){i h:Nat}{o:Oper}(ho:ops[i]? =some o)(hp:z3b o=true)(hni:¬L i)
 (hdep:∀e∈o.after,Region.binds .any e=true→L e.on) (hh:h≤ops.size) (h1:∀m,m<h→Spn ops m→L m) (h2:h<ops.size→Spn ops h∧¬L h) {v:AV} (hv:qW P sp 0 (evA (envE (s i).1)) (z00 (s i).2) o fun v' new'=>v'=v∧new'=[]) (hput:(s (i+1)).1=putE (s i).1 o.dst v) (ha:∀x∈o.op.operands,z19 (z00 (s h).2) 4 (evA (envE (s i).1) x)):
 ∃x,(qW P sp 0 (evA (envE (s i).1)) (z00 (s h).2) o fun v' new'=>v'=x∧new'=[])∧(s (i+1)).1=putE (s i).1 o.dst x:=by
 have hi:i<ops.size:=(Array.getElem?_eq_some_iff.1 ho).1
 cases hhr:hrOp o with
 |false=>exact⟨v,zvt hp hhr hv,hput⟩
 |true=>
  by_cases hle:i≤h
  · rcases zjr (ops:=ops) i h hle with hno|⟨m,m1,m2,⟨om,hom,hpm⟩,m4⟩
    · rw[z5y hst hle hh hno];exact⟨v,hv,hput⟩
    · have hmi:m≠i:=fun e=>by subst e;rw[hom] at ho;cases ho;rw[hp] at hpm;cases hpm
      have hLm:=h1 m m2 ⟨om,hom,hpm⟩;have hnb:¬Bef ops i m:=fun hb=>hni (hb.listed hL hom (fun e he hb=>hL m om hom hLm e he hb));have hlag:=(hd.lag m i om o hom ho hpm hp hhr (by omega)).resolve_left hnb;unfold zsc at hlag;simp only[Bool.and_eq_true] at hlag;obtain⟨⟨⟨l1,l2⟩,l3⟩,l4⟩:=hlag;rw[List.any_eq_true] at l1;obtain⟨⟨m',ks⟩,hin,hmk⟩:=l1;simp only[Bool.and_eq_true,beq_iff_eq] at hmk;obtain⟨rfl,hks⟩:=hmk;have hck:=hr m' ks hin;have hmem:i∈ks:=by rwa [List.contains_iff_mem] at hks
      have hone:∀(ks:List Nat),rck P sp ops (s (m'+1)).1 (s (m'+1)).2 ks→i∈ks→∃t,o.dst=some t∧valW P sp (z00 (s (m'+1)).2) (evA (envE (s (m'+1)).1)) o.op (fun v=>v=envE (s (m'+1)).1 t):=by
       intro ks
       induction ks with
       |nil=>intro _ h;cases h
       |cons k ks ih=>
        intro hc hk;unfold rck at hc;rcases List.mem_cons.1 hk with rfl|hk
        · have:=hc.1;rw[ho] at this;simp only at this
          cases hdt:o.dst with
          |none=>rw[hdt] at this;exact this.elim
          |some t=>rw[hdt] at this;exact⟨t,rfl,this⟩
        · exact ih hc.2 hk
      obtain⟨t,hdt,hval⟩:=hone ks hck hmem;have hmsz:m'<ops.size:=by omega
      have hrw:=z5y hst (b:=m'+1) (h:=h) (by omega) hh (fun x x1 x2=>m4 x (by omega) x2);rw[hrw] at ha⊢
      have henv:∀x∈looksAt ops o,envE (s (m'+1)).1 x=envE (s i).1 x:=fun x hx=>by
       rw[List.all_eq_true] at l4;have l4:=allLt_iff.1 (l4 x hx);refine z2m hst (by omega) (by omega) (fun j j1 j2 ⟨oj,hoj,hdj⟩=> ?_);have:=l4 j (by omega);rw[hoj] at this;simp only[Bool.or_eq_true,Bool.not_eq_true',Bool.and_eq_false_iff,decide_eq_false_iff_not,bne_iff_ne,ne_eq] at this;rcases this with (h|h)|h
       · omega
       · omega
       · exact h hdj
      have hev:∀x∈o.op.operands,evA (envE (s i).1) x=evA (envE (s (m'+1)).1) x:=fun x hx=>by
       cases x with
       |tmp t=>exact(henv t (by unfold looksAt Oper.looksAt;exact List.mem_append_left _ (List.mem_filterMap.2 ⟨.tmp t,by simpa using hx,rfl⟩))).symm
       |_=>rfl
      refine⟨_,zy7 hp (z7e (fun K _ _=>rfl) hev ha hval), ?_⟩;by_cases htn:t<(s i).1.length
      · have hvt:envE (s (m'+1)).1 t=v:=by have hw:WrT ops i t:=⟨o,ho,hdt⟩;rw[z2m hst (i:=i+1) (j:=m'+1) (by omega) (by omega) (fun k' k1 k2 k3=>by have:=hd.wr k3 hw;omega),hput,z44,if_pos ⟨hdt,htn⟩]
        rw[hvt];exact hput
      · rw[hput,hdt];unfold putE;simp only;rw[List.set_eq_of_length_le (Nat.le_of_not_lt htn),List.set_eq_of_length_le (Nat.le_of_not_lt htn)]
  · have hlt:h<i:=by omega
    obtain⟨⟨oh,hoh,hph⟩,hnh⟩:=h2 (by omega);exact absurd ((hd.late h i oh o hoh ho hph hp hhr hlt).listed hL ho hdep) hnh
structure InvT (w0:World)(fp:Nat→Prop)(S0:Bs)(ops:Array Oper)(s:Nat→StT)(n:Nat)(listed:Array Bool)(a:Act)(w:World):Prop where
 ex:∃h I,h≤ops.size∧(∀m,m<h→Spn ops m→LB listed m)∧(h<ops.size→Spn ops h∧¬LB listed h)∧Rel w0 fp S0 I n (ES ops s 0 ops.size (LB listed)) (z00 (s h).2) a w
 down:z6c ops (LB listed)
 size:listed.size=ops.size
theorem zi2 (hR:Rel w0 fp S0 I n E H a w):envE ((List.range n).map E)=E:=by
 funext t;unfold envE;rw[List.getD_eq_getElem?_getD,List.getElem?_map];by_cases h:t<n
 · rw[List.getElem?_range h];rfl
 · rw[List.getElem?_eq_none (by simpa using h),hR.out t (by omega)];rfl
theorem zxd (hsp:SpecOk P sp w0 fp)(hd:DrawT ms ops)(hst:∀i,i<ops.size→z6h P sp ops i (s i) (s (i+1)))(hr:∀m ks,(m,ks)∈ms→rck P sp ops (s (m+1)).1 (s (m+1)).2 ks)(hlen:∀i,i≤ops.size→(s i).1.length=n)
 {listed:Array Bool} (hI:InvT w0 fp S0 ops s n listed a w) {i:Nat} {o:Oper} (ho:ops[i]? =some o) (hni:¬LB listed i) (hdep:∀e∈o.after,Region.binds .any e=true→LB listed e.on) {K:Act→World→Prop}
 (hK:∀a' w',InvT w0 fp S0 ops s n (listed.setIfInBounds i true) a' w'→K a' w'):wpOp P ops Q i K a w:=by
 have hi:i<ops.size:=(Array.getElem?_eq_some_iff.1 ho).1;obtain⟨h,I,h1,h2,h3,hR⟩:=hI.ex;have hset:=fun k=>zuc (listed:=listed) (i:=i) (by rw[hI.size];exact hi) k
 have hdown':z6c ops (LB (listed.setIfInBounds i true)):=fun j oj hoj hj e he hb=>by
  rw[hset] at hj⊢;rcases hj with hj|rfl
  · exact .inl (hI.down j oj hoj hj e he hb)
  · rw[ho] at hoj;cases hoj;exact .inl (hdep e he hb)
 have hsize':(listed.setIfInBounds i true).size=ops.size:=by simp[hI.size]
 have hlook:∀t∈o.looksAt ops,ES ops s 0 ops.size (LB listed) t=envE (s i).1 t:=fun t ht=>zxc hst hd hI.down ho hni hdep ht
 have hops:∀x∈o.op.operands,evA (ES ops s 0 ops.size (LB listed)) x=evA (envE (s i).1) x:=fun x hx=>by
  cases x with
  |tmp t=>exact hlook t (by unfold Oper.looksAt;exact List.mem_append_left _ (List.mem_filterMap.2 ⟨.tmp t,by simpa using hx,rfl⟩))
  |_=>rfl
 have halive:∀f,∀x∈o.op.operands,z19 (z00 (s h).2) f (evA (envE (s i).1) x):=fun f x hx=>by rw[←hops x hx];exact z4v hR.mem f _ _ (z2h hR x)
 have hpure:z3b o=true→h=h∧∃h',h'=h∧(∀m,m<h→Spn ops m→LB (listed.setIfInBounds i true) m)∧(h<ops.size→Spn ops h∧¬LB (listed.setIfInBounds i true) h):=fun hp=>
  ⟨rfl,h,rfl,fun m hm hs=>(hset m).2 (.inl (h2 m hm hs)),fun hh=>⟨(h3 hh).1,fun hl=>by
   rcases (hset h).1 hl with hl|hl
   · exact(h3 hh).2 hl
   · obtain⟨⟨oh,hoh,hph⟩, -⟩:=h3 hh;rw[hl,ho] at hoh;cases hoh;rw[hp] at hph;cases hph⟩⟩
 have hspn:z3b o=false→i=h:=fun hp=>by
  apply Decidable.byContradiction;intro hne;by_cases hlt:i<h
  · exact hni (h2 i hlt ⟨o,ho,hp⟩)
  · obtain⟨⟨oh,hoh,hph⟩,hnh⟩:=h3 (by omega);rcases hd.spine i h o oh ho hoh hne hp hph with hb|hb
    · exact hnh (hb.listed hI.down ho hdep)
    · have:=hb.ltT hd (Array.getElem?_eq_some_iff.1 hoh).1;omega
 have hnext:z3b o=false→∃h',(s h').2=(s (i+1)).2∧h'≤ops.size∧(∀m,m<h'→Spn ops m→LB (listed.setIfInBounds i true) m)∧(h'<ops.size→Spn ops h'∧¬LB (listed.setIfInBounds i true) h'):=fun hp=>by
  have hih:=hspn hp;obtain⟨h',n1,n2,n3,n4⟩:=zjq (ops:=ops) (i+1) (by omega);refine⟨h',z5y hst n1 n2 n4,n2,fun m hm hs=> ?_,fun hh=>⟨n3 hh,fun hl=> ?_⟩⟩
  · rw[hset];by_cases e:m=i
    · exact .inr e
    · by_cases hmi:m<i
      · exact .inl (h2 m (by omega) hs)
      · exact absurd hs (n4 m (by omega) hm)
  · rcases (hset h').1 hl with hl|hl
    · obtain⟨oh',hoh',hph'⟩:=n3 hh;obtain⟨⟨oh,hoh,hph⟩,hnh⟩:=h3 (by omega);rcases hd.spine h' h oh' oh hoh' hoh (by omega) hph' hph with hb|hb
      · exact hnh (hb.listed hI.down hoh' (fun e he hb=>hI.down h' oh' hoh' hl e he hb))
      · have:=hb.ltT hd (Array.getElem?_eq_some_iff.1 hoh).1;omega
    · omega
 unfold wpOp;rw[ho];simp only;obtain⟨o',ho',hstep⟩:=hst i hi;rw[ho] at ho';cases ho';rcases hstep with ⟨hw,v,hop,hput⟩|⟨hw,hun⟩
 · have hw':=z2l hR (hw.congr hlook);rw[if_pos hw'];left
   cases hp:z3b o with
   |true=>obtain⟨r,hv1,hv2⟩:=zfl (nx:=0) hp hop;obtain⟨rfl,hrows⟩:=hv1;obtain⟨x,hx1,hx2⟩:=zo4 hd hst hr hlen hI.down ho hp hni hdep h1 h2 h3 hv2 hput (halive 4);have hx3:=ze0 (H:=z00 (s h).2) (H':=z00 (s h).2) (fun K _ _=>rfl) hops (fun f y hy=>by rw[hops y hy];exact halive f y hy) hx1;refine q_ok hsp hx3 S0 I n a w hR (fun k k1 k2=>by simp at k2) K Q (fun u w' I' q1 q2 q3=> ?_);rw[z98] at q1 q2 q3;obtain⟨-, -, -,g1,g2⟩:=hpure hp;exact hK _ w' ⟨⟨h,I',h1,g1,g2,hR.putF q2 q1 q3 o.dst (fun t=>zi1 hst hd ho hni hx2 hset (hlen i (by omega)) t)⟩,hdown',hsize'⟩
   |false=>
    have hih:=hspn hp;have hel:=zi2 hR;have hR2:RelS w0 fp S0 I ((List.range n).map (ES ops s 0 ops.size (LB listed))) (s h).2 a w:=by unfold RelS;rw[hel,List.length_map,List.length_range];exact hR
    rw[hih] at hop;have hop2:opW P sp ((List.range n).map (ES ops s 0 ops.size (LB listed))) (s h).2 o (fun v' r'=>v'=v∧r'=(s (h+1)).2):=by refine zo2 (env:=(s h).1) (fun x hx=>by rw[hel,hops x hx,hih]) (fun f x hx=>by rw[hel,hops x hx];exact halive f x hx) ?_;exact hop
    refine zjf hsp hop2 hR2 (fun I' u w' hR3=> ?_);unfold RelS at hR3;rw[z2q,List.length_map,List.length_range] at hR3;obtain⟨h',g0,g1,g2,g3⟩:=hnext hp;have hee:envE (putE ((List.range n).map (ES ops s 0 ops.size (LB listed))) o.dst v)=ES ops s 0 ops.size (LB (listed.setIfInBounds i true)):=by funext t;rw[z44,hel,List.length_map,List.length_range];exact(zi1 hst hd ho hni hput hset (hlen i (by omega)) t).symm
    rw[hee,←hih,←g0] at hR3;exact hK _ w' ⟨⟨h',I',g1,g2,g3,hR3⟩,hdown',hsize'⟩
 · have hw':=z2l hR (hw.congr hlook);rw[if_neg (by rw[hw'];simp)];have e1:(s (i+1)).1=putE (s i).1 o.dst (.sc undef):=by rw[hun]
   have e2:(s (i+1)).2=(s i).2:=by rw[hun]
   have hR3:=hR.putF hR.mem (.cl _ _ (.sc undef)) (fun y u hu=>hu) o.dst (fun t=>zi1 hst hd ho hni e1 hset (hlen i (by omega)) t)
   cases hp:z3b o with
   |true=>obtain⟨-, -, -,g1,g2⟩:=hpure hp;exact hK _ w ⟨⟨h,I,h1,g1,g2,hR3⟩,hdown',hsize'⟩
   |false=>
    obtain⟨h',g0,g1,g2,g3⟩:=hnext hp;have hih:=hspn hp;refine hK _ w ⟨⟨h',I,g1,g2,g3, ?_⟩,hdown',hsize'⟩;have e3:(s h').2=(s h).2:=by rw[g0,e2,hih]
    rw[e3];exact hR3
theorem zlh (hsp:SpecOk P sp w0 fp)(hd:DrawT ms ops)(hst:∀i,i<ops.size→z6h P sp ops i (s i) (s (i+1)))(hr:∀m ks,(m,ks)∈ms→rck P sp ops (s (m+1)).1 (s (m+1)).2 ks)(hlen:∀i,i≤ops.size→(s i).1.length=n)
 (hQ:∀I' a' w',Rel w0 fp S0 I' n (envE (s ops.size).1) (z00 (s ops.size).2) a' w'→Q .normal a' w') (hR:Rel w0 fp S0 I n (envE (s 0).1) (z00 (s 0).2) a w):wpAny P .any ops Q ops.size (Array.replicate ops.size false) a w:=by
 have fin:∀(listed:Array Bool) (a:Act) (w:World),InvT w0 fp S0 ops s n listed a w→(∀i,i<ops.size→LB listed i)→Q .normal a w:=fun listed a w hI hall=>by
  obtain⟨h,I,h1,h2,h3,h4⟩:=hI.ex;have:h=ops.size:=by apply Decidable.byContradiction;intro hne;exact(h3 (by omega)).2 (hall h (by omega))
  subst this;rw[zsd hst hall] at h4;exact hQ I a w h4
 have allOf:∀(listed:Array Bool) (a:Act) (w:World),InvT w0 fp S0 ops s n listed a w→Region.ready .any ops listed=[]→∀i,i<ops.size→LB listed i:=fun listed a w hI hr=>by
  intro i
  induction i using Nat.strongRecOn with
  |_ i ih=>
   intro hi;apply Decidable.byContradiction;intro hn;have:i∈Region.ready .any ops listed:=by rw[mem_ready];exact⟨(z1m (by rw[hI.size];exact hi)).2 hn,ops[i],Array.getElem?_eq_getElem hi,fun e he hb=>by have:=hd.edge i _ (Array.getElem?_eq_getElem hi) e he hb;exact ih e.on this (by omega)⟩
   rw[hr] at this;cases this
 have key:∀(fuel:Nat) (listed:Array Bool) (a:Act) (w:World),InvT w0 fp S0 ops s n listed a w→cntU ops.size listed≤fuel→wpAny P .any ops Q fuel listed a w:=by
  intro fuel
  induction fuel with
  |zero=>
   intro listed a w hI hc;have hall:∀i,i<ops.size→LB listed i:=fun i hi=>by apply Decidable.byContradiction;intro hn;have h1:=(z1m (by rw[hI.size];exact hi)).2 hn;unfold cntU at hc;have:i∈(List.range ops.size).filter fun i=> !listed.getD i true:=List.mem_filter.2 ⟨List.mem_range.2 hi,by rw[h1];rfl⟩;have:=List.length_pos_iff_exists_mem.2 ⟨i,this⟩;omega
   refine⟨?_,fin listed a w hI hall⟩
   cases hr:Region.ready .any ops listed with
   |nil=>rfl
   |cons j r=>
    have:j∈Region.ready .any ops listed:=by rw[hr];simp
    rw[mem_ready] at this;obtain⟨h1,o,ho, -⟩:=this;have hj:=(Array.getElem?_eq_some_iff.1 ho).1;exact absurd (hall j hj) ((z1m (by rw[hI.size];exact hj)).1 h1)
  |succ fuel ih=>
   intro listed a w hI hc;refine⟨fun hr=>fin listed a w hI (allOf listed a w hI hr),fun i hi=> ?_⟩;rw[mem_ready] at hi;obtain⟨hi1,o,ho,hdep⟩:=hi;have hin:=(Array.getElem?_eq_some_iff.1 ho).1;have hisz:i<listed.size:=by rw[hI.size];exact hin
   have hni:=(z1m hisz).1 hi1
   have hcnt:cntU ops.size (listed.setIfInBounds i true)≤fuel:=by
    have:cntU ops.size (listed.setIfInBounds i true)<cntU ops.size listed:=by
     unfold cntU;refine z7x _ i (fun x hx h=> ?_) (List.mem_range.2 hin) (by rw[hi1];rfl) (by simp[hisz]);by_cases hxi:x=i
     · subst hxi;simp[hisz] at h
     · rw[getD_set_ne true (fun e=>hxi e.symm)] at h;exact h
    omega
   exact zxd hsp hd hst hr hlen hI ho hni hdep (fun a' w' hI'=>ih _ a' w' hI' hcnt)
 have hemp:∀i,¬LB (Array.replicate ops.size false) i:=fun i h=>by unfold LB at h;by_cases hi:i<ops.size<;>simp[hi] at h
 obtain⟨h,n1,n2,n3,n4⟩:=zjq (ops:=ops) 0 (Nat.zero_le _);refine key ops.size _ a w ⟨⟨h,I,n2,fun m hm hs=>absurd hs (n4 m (Nat.zero_le _) hm),fun hh=>⟨n3 hh,hemp h⟩, ?_⟩,fun j o ho h=>absurd h (hemp j),by simp⟩ ?_
 · rw[zb8 (fun i _ _=>hemp i),z5y hst (Nat.zero_le h) n2 n4];exact hR
 · unfold cntU;exact Nat.le_trans (List.length_filter_le ..) (by simp)
def zck (k:Nat)(ms:Fls)(ops:Array Oper):Bool:=zo0 k ms ops||zvr ms ops
theorem zli (h:zck k ms ops=true):okMs ops.size 0 ms=true:=by
 unfold zck at h;rw[Bool.or_eq_true] at h;rcases h with h|h
 · unfold zo0 at h;split at h
   · exact(z8o h).okms
   · rw[Bool.and_eq_true] at h;have:=(z8o h.2).okms;rw[z34] at this;exact this
 · exact(zjo h).okms
theorem zse (hsp:SpecOk P sp w0 fp)(hd:zck k ms ops=true)(hst:∀i,i<ops.size→z6h P sp ops i (s i) (s (i+1)))(hr:∀m ks,(m,ks)∈ms→rck P sp ops (s (m+1)).1 (s (m+1)).2 ks)(hlen:∀i,i≤ops.size→(s i).1.length=n)
 (hQ:∀I' a' w',Rel w0 fp S0 I' n (envE (s ops.size).1) (z00 (s ops.size).2) a' w'→Q .normal a' w') (hp:∀c a w,¬Q (.panic c) a w) (hR:Rel w0 fp S0 I n (envE (s 0).1) (z00 (s 0).2) a w):wpAny P .any ops Q ops.size (Array.replicate ops.size false) a w:=by
 unfold zck at hd;rw[Bool.or_eq_true] at hd;rcases hd with hd|hd
 · by_cases hk:k=0
   · subst hk;unfold zo0 at hd;rw[if_pos rfl] at hd;have hD:=z8o hd;have hemp:∀i,¬LB (Array.replicate ops.size false) i:=fun i h=>by unfold LB at h;by_cases hi:i<ops.size<;>simp[hi] at h
     refine znx (s:=s) (n:=n) (w0:=w0) (fp:=fp) (S0:=S0) hsp hD hst hr hlen hQ ops.size _ a w ⟨⟨0,0,I,Nat.le_refl _,Nat.zero_le _,fun i h1 h2=>by omega,fun i h=>by omega,.inl ⟨fun i j h=>by omega,fun i _=>hemp i, ?_⟩⟩,fun j o ho h=>absurd h (hemp j),by simp⟩ ?_
     · rw[zb8 (fun i _ _=>hemp i),ze3 (fun i _ _=>hemp i)];exact hR
     · unfold cntU;exact Nat.le_trans (List.length_filter_le ..) (by simp)
   · exact zlg (s:=s) (n:=n) (k:=k) hsp (Nat.pos_of_ne_zero hk) hd hst hr hlen hQ hp hR
 · exact zlh hsp (zjo hd) hst hr hlen hQ hR
end
end Go.Proofs.YtnlacmnoocigiaaGreatDoor.Aw
namespace Go.Proofs.YtnlacmnoocigiaaGreatDoor.Aw
open Go.RowKit
abbrev QT :=Exit→List AV→List Row→Prop
def okA (H H':Heap):Nat→AV→Prop
 |_,.sc _|_,.ro _|_,.rp _|_,.dead=>True
 |_,.ptr K _=>(match H K,H' K with|.var _ _,.var _ _=>True|_,_=>False)
 |_,.sl K _|_,.lp K _ _ _=>H' K=H K
 |f+1,.agg l|f+1,.tup l|f+1,.fn _ l=>∀x∈l,okA H H' f x
 |_,_=>False
def nilV (H H':Heap)(x y:AV):Prop:=x=.sc (.slice none 0 0)∧match y with
 |.sl K 0=>H K=.dead∧(match H' K with|.lst _ [] _=>True|_=>False)
 |.ro []=>True
 |_=>False
def nilR :Row→Bool
 |.lst sz [] _=>decide (0<sz)
 |_=>false
def z1k (H H':Heap)(x y:AV):Prop:=y=.dead∨(y=x∧okA H H' 3 x)∨nilV H H' x y
def z1t (H H':Heap):List AV→List AV→Prop
 |[],[]=>True
 |x::l,y::m=>z1k H H' x y∧z1t H H' l m
 |_,_=>False
def z1d (H H':Heap):List Row→List Row→Prop
 |_,[]=>True
 |r::l,r'::m=>(match r' with
  |.dead=>True
  |.var cs' e'=>(match r with
   |.var cs e=>e'=e∧z1t H H' cs cs'
   |_=>False)
  |r'=>r'=r)∧z1d H H' l m
 |[],r'::m=>nilR r'=true∧z1d H H' [] m
def Weak (env:List AV)(rows:List Row)(env':List AV)(rows':List Row):Prop:=z1t (z00 rows) (z00 rows') env env'∧z1d (z00 rows) (z00 rows') rows rows'
def flOf :List (Nat×Fls)→Nat→Fls
 |[],_=>[]
 |(i,ms)::l,id=>if i=id then ms else flOf l id
def zjs (fl:List (Nat×Fls))(id:Nat):Nat:=match flOf fl (id+3000000) with
 |(k,_)::_=>k
 |[]=>0
def mcM :Fls:=[(1000000,[])]
def pinR :Nat→List Row→Prop
 |0,_=>True
 |n+1,rows=>z0e (rows.getD n .dead)=true∧pinR n rows
def aw (P:Program)(sp:Spec)(fl:List (Nat×Fls)):Code→QT→List AV→List Row→Prop
 |.skip,Q,env,rows=>Q .normal env rows
 |.region id ops draw,Q,env,rows=>(draw=true→zck (zjs fl id) (flOf fl id) ops=true)∧(if draw=false∧flOf fl id=mcM then opsM P sp ops ops.toList env rows (Q .normal) else opsS P sp ops (if draw=true then flOf fl id else []) 0 env rows (Q .normal))
 |.seq x y,Q,env,rows=>aw P sp fl x (fun e env rows=>match e with
  |.normal=>aw P sp fl y Q env rows
  |e=>Q e env rows) env rows
 |.cond c x y,Q,env,rows=>match evA (envE env) c with
  |.sc (.bool b)=>(b=true→aw P sp fl x Q env rows)∧(b=false→aw P sp fl y Q env rows)
  |_=>False
 |.block id c,Q,env,rows=>aw P sp fl c (fun e env rows=>match e with
  |.exit id'=>if id'=id then Q .normal env rows else Q (.exit id') env rows
  |e=>Q e env rows) env rows
 |.loop c,Q,env,rows=>∃(J:Nat→List AV→List Row→Prop) (k:Nat) (env0:List AV) (rows0:List Row),Weak env rows env0 rows0∧J k env0 rows0∧(∀k env rows,J k env rows→pinR sp.pins rows)∧∀k env rows,J k env rows→aw P sp fl c (fun e env' rows'=>match e with
  |.normal=>∃k2 env2 rows2,Weak env' rows' env2 rows2∧J k2 env2 rows2∧k2<k
  |e=>Q e env' rows') env rows
 |.exit id,Q,env,rows=>Q (.exit id) env rows
 |.label _,Q,env,rows=>Q .normal env rows
 |.ret,Q,env,rows=>Q .ret env rows
 |_,_,_,_=>False
section
variable {P : Program} {sp : Spec} {w0 w w' : World} {fp : Nat → Prop} {S0 : Bs} {I I' : Itp} {H H' : Heap} {n nx m p q : Nat} {E E' : Nat → AV} {a : Act} {env env' : List AV} {rows rows' : List Row} {ops : Array Oper}
theorem zjt :∀(f:Nat) (x:AV) (v:Value),okA H H' f x→VR I H w x v→VR I H' w x v
 |f,.sc u,v,h,hv=>.cl _ _ (by rw[hv.sc_inv];exact .sc _)
 |f,.ro u,v,h,hv=>.cl _ _ hv.ro_inv
 |f,.rp u,v,h,hv=>.cl _ _ hv.rp_inv
 |f,.dead,v,h,hv=>.dead v
 |f,.ptr K off,v,h,hv=>by
  obtain⟨rfl,cs,e,hK⟩:=hv.ptr_inv;have h:(match H K,H' K with|.var _ _,.var _ _=>True|_,_=>False):=by cases f<;>exact h
  rw[hK] at h
  cases hK':H' K with
  |var cs' e'=>exact .ptr K off cs' e' hK'
  |_=>rw[hK'] at h;exact h.elim
 |f,.sl K k,v,h,hv=>by
  have h:H' K=H K:=by cases f<;>exact h
  obtain⟨m,q1,q2,q3⟩:=hv.sl_inv;exact .sl K k m v (by rw[h];exact q1) q2 q3
 |f,.lp K k i j,v,h,hv=>by
  have h:H' K=H K:=by cases f<;>exact h
  obtain⟨m,q1,q2,q3⟩:=hv.lp_inv;exact .lp K k i j m v (by rw[h];exact q1) q2 (by rw[h];exact q3)
 |0,.agg l,v,h,hv=>h.elim
 |0,.tup l,v,h,hv=>h.elim
 |0,.fn g l,v,h,hv=>h.elim
 |f+1,.agg l,v,h,hv=>by obtain⟨vs,rfl,g1,g2,g3⟩:=hv.agg_inv;exact .agg l vs g1 g2 (fun i x v h1 h2=>zjt f x v (h x (List.mem_of_getElem? h1)) (g3 i x v h1 h2))
 |f+1,.tup l,v,h,hv=>by obtain⟨vs,rfl,g1,g3⟩:=hv.tup_inv;exact .tup l vs g1 (fun i x v h1 h2=>zjt f x v (h x (List.mem_of_getElem? h1)) (g3 i x v h1 h2))
 |f+1,.fn g l,v,h,hv=>by obtain⟨vs,rfl,g1,g3⟩:=hv.fn_inv;exact .fn g l vs g1 (fun i x v h1 h2=>zjt f x v (h x (List.mem_of_getElem? h1)) (g3 i x v h1 h2))
theorem z6q :∀{l l':List AV},z1t H H' l l'→l'.length=l.length∧∀i:Nat,z1k H H' (l.getD i .dead) (l'.getD i .dead)
 |[],[],_=>⟨rfl,fun i=>.inl rfl⟩
 |[],_::_,h=>h.elim
 |_::_,[],h=>h.elim
 |x::l,y::m,h=>by
  obtain⟨h1,h2⟩:=z6q h.2;refine⟨by simp[h1],fun i=> ?_⟩
  cases i with
  |zero=>exact h.1
  |succ i=>exact h2 i
def wkR (H H':Heap)(r r':Row):Prop:=
 match r' with
 |.dead=>True
 |.var cs' e'=>(match r with
  |.var cs e=>e'=e∧z1t H H' cs cs'
  |_=>False)
 |r'=>r'=r
theorem zb9 :∀{l l':List Row},z1d H H' l l'→∀K:Nat,wkR H H' (l.getD K .dead) (l'.getD K .dead)∨(l.length≤K∧nilR (l'.getD K .dead)=true)
 |[],[],_,K=>.inl trivial
 |_::_,[],_,K=>.inl trivial
 |[],r'::m,h,K=>by
  have h:nilR r'=true∧z1d H H' [] m:=h
  cases K with
  |zero=>exact .inr ⟨Nat.zero_le _,h.1⟩
  |succ K=>exact(zb9 h.2 K).imp id (fun h=>⟨Nat.zero_le _,h.2⟩)
 |r::l,r'::m,h,K=>by
  cases K with
  |zero=>exact .inl h.1
  |succ K=>exact(zb9 h.2 K).imp id (fun h=>⟨by simpa using h.1,h.2⟩)
def opnI (I:Itp)(H:Heap):Itp:={I with hdr:=fun K=>match H K with|.dead=>.slice none 0 0|_=>I.hdr K,ow:=fun K=>match H K with|.dead=>none|_=>I.ow K}
theorem zxe {x:AV}{v:Value}(hv:VR I H w x v):VR (opnI I H) H w x v:=
 VR.keep (I:=I) (I':=opnI I H) (H:=H) (H':=H) (fun _ h=>h) (fun _ _=>rfl) (fun K=>by
  unfold Goes
  cases hK:H K with
  |dead=>trivial
  |var=>rfl
  |lst=>simp only[opnI,hK];exact⟨trivial,Nat.le_refl _,fun _=>trivial⟩
  |fro=>simp only[opnI,hK];exact⟨trivial,trivial⟩) hv
theorem zju {x y:AV}{v:Value}(h:z1k H H' x y)(hv:VR I H w x v):VR (opnI I H) H' w y v:=by
 rcases h with rfl|⟨rfl,h⟩|⟨rfl,h⟩
 · exact .dead v
 · exact zjt 3 _ v h (zxe hv)
 · rw[hv.sc_inv];split at h
   · rename_i K;obtain⟨h1,h2⟩:=h;split at h2<;>try exact h2.elim
     rename_i sz e hK;refine .sl K 0 0 _ (by rw[hK];rfl) (Nat.le_refl _) (fun _=> ?_);simp only[opnI,h1]
   · exact .cl _ _ zu8
   · exact h.elim
theorem zaj :∀{n:Nat} {rows:List Row},pinR n rows→∀K,K<n→∃cs e,z00 rows K=.var cs e
 |0,_,_,K,h=>by omega
 |n+1,rows,h,K,hK=>by
  by_cases e:K=n
  · subst e;have:=h.1;show ∃cs e,rows.getD K .dead=.var cs e;cases hr:rows.getD K .dead<;>rw[hr] at this<;>first|exact⟨_,_,rfl⟩|cases this
  · exact zaj h.2 K (by omega)
theorem Weak.ok (hw:Weak env rows env' rows')(hpn:∀p∈S0.pins,∃cs e,z00 rows' p.1=.var cs e)(hR:RelS w0 fp S0 I env rows a w):RelS w0 fp S0 (opnI I (z00 rows)) env' rows' a w:=by
 obtain⟨h1,h2⟩:=hw;obtain⟨h3,h4⟩:=z6q h1;have h5:=zb9 h2;have hout:∀K,rows.length≤K→z00 rows K=.dead:=fun K hK=>by unfold z00;rw[List.getD_eq_getElem?_getD,List.getElem?_eq_none hK];rfl
 have hown:∀K k,Owns (opnI I (z00 rows)) (z00 rows') K k→Owns I (z00 rows) K k:=fun K k hk=>by
  have h6:=h5 K;unfold Owns at hk⊢;split at hk
  · rename_i cs e he;have he':=he;unfold z00 at he';rw[he'] at h6;rcases h6 with h6|⟨-,h6⟩
    · unfold wkR at h6;simp only at h6;split at h6<;>try exact h6.elim
      rename_i he2;have he2:z00 rows K=_:=he2;rw[he2];exact hk
    · cases h6
  · rename_i sz l e he;have he':=he;unfold z00 at he';rw[he'] at h6;rcases h6 with h6|⟨h6, -⟩
    · have h7:z00 rows K=.lst sz l e:=(show Row.lst sz l e=_ from h6).symm;simp only[opnI,h7] at hk;rw[h7];exact hk
    · simp only[opnI,hout K h6] at hk;cases hk
  · exact hk.elim
 refine⟨⟨hR.mem.fr,fun K=> ?_,fun K k hk=>hR.mem.own K k (hown K k hk),fun K K' k a1 a2=>hR.mem.sep K K' k (hown K k a1) (hown K' k a2),hR.mem.slt,hR.mem.s0,hR.mem.snew,fun p hp=>by obtain⟨h6, -⟩:=(hR.mem.pin p hp).ptr_inv;obtain⟨cs,e,h7⟩:=hpn p hp;rw[h6];exact .ptr p.1 0 cs e h7⟩,hR.df,by rw[h3];exact hR.size,fun i v hv=> ?_,fun i hi=> ?_⟩
 · have h6:=h5 K;have hr:=hR.mem.rows K
   cases he:z00 rows' K with
   |dead=>trivial
   |var cs' e'=>
    have he':=he;unfold z00 at he';rw[he'] at h6;have h6:=h6.resolve_right (fun h=>by cases h.2);unfold wkR at h6;simp only at h6;split at h6<;>try exact h6.elim
    rename_i cs e he2;have he2:z00 rows K=.var cs e:=he2;rw[he2] at hr;obtain⟨rfl,hc⟩:=h6;obtain⟨vs,g1,g2,g3,g4⟩:=hr;obtain⟨c1,c2⟩:=z6q hc;refine⟨vs,g1,by rw[c1];exact g2,g3,fun i x v a1 a2=> ?_⟩;have:=c2 i;have hlt:i<cs.length:=by rw[←c1];exact(List.getElem?_eq_some_iff.1 a1).1
    rw[List.getD_eq_getElem?_getD,List.getD_eq_getElem?_getD,a1,List.getElem?_eq_getElem hlt] at this;exact zju this (g4 i _ v (List.getElem?_eq_getElem hlt) a2)
   |lst sz l e=>
    have he':=he;unfold z00 at he';rw[he'] at h6;rcases h6 with h6|⟨h6,h8⟩
    · have h7:z00 rows K=.lst sz l e:=(show Row.lst sz l e=_ from h6).symm;rw[h7] at hr;obtain⟨hz,cs,g1,g2⟩:=hr;refine⟨hz,cs, ?_,g2⟩;simp only[opnI,h7];exact g1
    · cases l with
      |cons=>cases h8
      |nil=>have hz:0<sz:=of_decide_eq_true h8;refine⟨hz,[], ?_,⟨rfl,fun i e h=>by simp at h,fun i j e c x v h=>by simp at h⟩⟩;simp only[opnI,hout K h6];exact Own.nil_ _ _ _ _
   |fro l=>
    have he':=he;unfold z00 at he';rw[he'] at h6;rcases h6 with h6|⟨h6,h8⟩
    · have h7:z00 rows K=.fro l:=(show Row.fro l=_ from h6).symm;rw[h7] at hr;unfold zho at hr⊢;simp only[opnI,h7];exact hr
    · cases h8
 · exact zju (h4 i) (hR.env i v hv)
 · unfold envE;rw[List.getD_eq_getElem?_getD,List.getElem?_eq_none hi];rfl
def Ends (w0:World)(fp:Nat→Prop)(S0:Bs)(n:Nat)(Q:QT)(e:Exit)(a:Act)(w:World):Prop:=∃I env rows,Q e env rows∧env.length=n∧RelS w0 fp S0 I env rows a w
theorem zo5 (hsp:SpecOk P sp w0 fp)(hmix:P.follows .mixedOrders=true){id:Nat}{draw:Bool}{Q:QT}{ms:Fls}{k:Nat}(hd:draw=true→zck k ms ops=true)(h:if draw=false∧ms=mcM then opsM P sp ops ops.toList env rows (Q .normal) else opsS P sp ops (if draw=true then ms else []) 0 env rows (Q .normal))(hn:env.length=n)(hR:RelS w0 fp S0 I env rows a w):
 (Code.region id ops draw).wp P (Ends w0 fp S0 n Q) a w:=by
 cases draw with
 |false=>
  by_cases hmc:ms=mcM
  · rw[if_pos ⟨rfl,hmc⟩] at h;exact wp_region_list (ze6 (n:=n) hsp (fun I' env' rows' a' w' hK hl hR'=>⟨I',env',rows',hK,hl,hR'⟩) ops.toList env rows I a w h hn hR)
  rw[if_neg (fun h=>hmc h.2)] at h;have h:opsW P sp ops ops.toList env rows (Q .normal):=h;refine wp_region_list (zhx (n:=n) hsp (fun I' env' rows' a' w' hK hl hR'=>⟨I',env',rows',hK,hl,hR'⟩) ops.toList env rows I a w h hn hR)
 |true=>
  rw[if_neg (fun h=>by cases h.1)] at h;have hok:okMs ops.size 0 ms=true:=zli (hd rfl);obtain⟨s,s1,s2,s3,s4⟩:=zfh ms 0 env rows (Nat.zero_le _) hok h
  have hlen:∀i,i≤ops.size→(s i).1.length=n:=by
   intro i
   induction i with
   |zero=>intro _;rw[s1];exact hn
   |succ i ih=>
    intro hi;obtain⟨o,ho,h1⟩:=s2 i (Nat.zero_le _) (by omega);rcases h1 with ⟨-,v, -,h1⟩|⟨-,h1⟩
    · rw[h1,z2q];exact ih (by omega)
    · rw[h1,z2q];exact ih (by omega)
  have hR':Rel w0 fp S0 I n (envE (s 0).1) (z00 (s 0).2) a {w with drawn:=w.drawn+1}:=by have hm:=hR.mem.quiet (w':=w.drew) ((Fr.refl _ w).drew);rw[s1];refine⟨hm.1,hR.df,by rw[←hn];exact hR.size,fun i v hv=>hm.2 (hR.env i v hv),fun i hi=>hR.out i (by rw[hn];exact hi)⟩
  have hfin:∀I' a' w',Rel w0 fp S0 I' n (envE (s ops.size).1) (z00 (s ops.size).2) a' w'→Ends w0 fp S0 n Q .normal a' w':=fun I' a' w' hR2=>⟨I',_,_,s3,hlen _ (Nat.le_refl _),by unfold RelS;rw[hlen _ (Nat.le_refl _)];exact hR2⟩;refine wp_mono (Q:=fun e a w=>e=.normal∧Ends w0 fp S0 n Q .normal a w) (wp_region_any hmix ?_) (fun e a w h=>by rw[h.1];exact h.2);exact zse (s:=s) (n:=n) (k:=k) hsp (hd rfl) (fun i hi=>s2 i (Nat.zero_le _) hi) s4 hlen (fun I' a' w' h=>⟨rfl,hfin I' a' w' h⟩) (fun c a w h=>by cases h.1) hR'
theorem zxf {fl:List (Nat×Fls)}(hpn:∀p∈S0.pins,p.1<sp.pins)(hsp:SpecOk P sp w0 fp)(hmix:P.follows .mixedOrders=true):∀(c:Code) (Q:QT) (env:List AV) (rows:List Row) (I:Itp) (a:Act) (w:World),aw P sp fl c Q env rows→env.length=n→RelS w0 fp S0 I env rows a w→c.wp P (Ends w0 fp S0 n Q) a w:=by
 intro c
 induction c with
 |skip=>intro Q env rows I a w h hn hR;exact wp_skip ⟨I,env,rows,h,hn,hR⟩
 |region id ops draw=>intro Q env rows I a w h hn hR;exact zo5 hsp hmix h.1 h.2 hn hR
 |seq x y ihx ihy=>
  intro Q env rows I a w h hn hR;refine wp_seq (wp_mono (ihx _ env rows I a w h hn hR) fun e a' w' hh=> ?_);obtain⟨I',env',rows',h1,h2,h3⟩:=hh
  cases e with
  |normal=>exact ihy Q env' rows' I' a' w' h1 h2 h3
  |_=>exact⟨I',env',rows',h1,h2,h3⟩
 |cond c x y ihx ihy=>
  intro Q env rows I a w h hn hR;unfold aw at h;split at h<;>try exact h.elim
  rename_i b hb;have hc:a.eval c=.bool b:=by have:=z2h hR c;rw[hb] at this;exact this.sc_inv
  cases b with
  |true=>exact wp_cond_true hc (ihx Q env rows I a w (h.1 rfl) hn hR)
  |false=>exact wp_cond_false hc (ihy Q env rows I a w (h.2 rfl) hn hR)
 |block id c ih=>
  intro Q env rows I a w h hn hR;refine wp_block (wp_mono (ih _ env rows I a w h hn hR) fun e a' w' hh=> ?_);obtain⟨I',env',rows',h1,h2,h3⟩:=hh
  cases e with
  |exit id'=>
   simp only at h1;unfold Exit.inBlock;simp only;split at h1
   · rename_i he;rw[if_pos he];exact⟨I',env',rows',h1,h2,h3⟩
   · rename_i he;rw[if_neg he];exact⟨I',env',rows',h1,h2,h3⟩
  |_=>exact⟨I',env',rows',h1,h2,h3⟩
 |loop c ih=>
  intro Q env rows I a w h hn hR;obtain⟨J,k0,env0,rows0,hw0,h0,hpr,hround⟩:=h;have hpv:∀{k:Nat} {env:List AV} {rows:List Row},J k env rows→∀p∈S0.pins,∃cs e,z00 rows p.1=.var cs e:=fun hj p hp=>zaj (hpr _ _ _ hj) p.1 (hpn p hp);have hl0:∀{env env':List AV} {rows rows':List Row},Weak env rows env' rows'→env'.length=env.length:=fun hw=>(z6q hw.1).1;refine wp_loop_ghost (fun k a' w'=>∃I env rows,J k env rows∧env.length=n∧RelS w0 fp S0 I env rows a' w') k0 ⟨_,env0,rows0,h0,by rw[hl0 hw0];exact hn,hw0.ok (hpv h0) hR⟩ (fun k a1 w1 hh=> ?_);obtain⟨I1,env1,rows1,h1,h2,h3⟩:=hh;refine wp_mono (ih _ env1 rows1 I1 a1 w1 (hround k env1 rows1 h1) h2 h3) fun e a' w' hh=> ?_;obtain⟨I',env',rows',h4,h5,h6⟩:=hh
  cases e with
  |normal=>obtain⟨k2,env2,rows2,q1,q2,q3⟩:=h4;exact⟨k2,q3,_,env2,rows2,q2,by rw[hl0 q1];exact h5,q1.ok (hpv q2) h6⟩
  |_=>exact⟨I',env',rows',h4,h5,h6⟩
 |exit id=>intro Q env rows I a w h hn hR;exact wp_exit ⟨I,env,rows,h,hn,hR⟩
 |label l=>intro Q env rows I a w h hn hR;exact wp_label ⟨I,env,rows,h,hn,hR⟩
 |ret=>intro Q env rows I a w h hn hR;exact wp_ret ⟨I,env,rows,h,hn,hR⟩
 |_=>intro Q env rows I a w h hn hR;exact h.elim
end
end Go.Proofs.YtnlacmnoocigiaaGreatDoor.Aw
namespace Go.Proofs.YtnlacmnoocigiaaGreatDoor.Aw
open Go.RowKit
def z43 (P:Program)(env:List AV)(rows:List Row)(r:ResultVar)(K:AV→Prop):Prop:=
 match r with
 |.tmp t=>K (envE env t)
 |.cell p t=>placeW (z00 rows) (envE env p) fun cs=>z6m P t cs K
def resW (P:Program)(env:List AV)(rows:List Row)(rs:List ResultVar)(K:AV→Prop):Prop:=
 match rs with
 |[]=>K (.sc undef)
 |[r]=>z43 P env rows r K
 |[r,r2]=>z43 P env rows r fun x=>z43 P env rows r2 fun y=>K (.tup [x,y])
 |[r,r2,r3]=>z43 P env rows r fun x=>z43 P env rows r2 fun y=>z43 P env rows r3 fun z=>K (.tup [x,y,z])
 |_=>False
def zo6 (tmps:Array Value):ResultVar→Sem Value
 |.tmp t=>pure (tmps.getD t undef)
 |.cell a t=>do loadVar t (←asAddr (tmps.getD a undef))
def frzA (H:Heap):Nat→AV→Option AV
 |_,.sc u=>some (scA u)
 |_,.ro l=>some (.ro l)
 |_,.rp l=>some (.rp l)
 |_,.sl K n=>match H K with
  |.lst _ l _=>if l.length=n then some (.ro l) else none
  |.fro l=>if l.length=n then some (.ro l) else none
  |_=>none
 |f+1,.agg l=>(mapO (frzA H f) l).map .agg
 |f+1,.tup l=>(mapO (frzA H f) l).map .tup
 |_,_=>none
def retV (P:Program)(rs:List ResultVar)(r:AV):QT:=fun e env rows=>
 match e with
 |.ret|.normal=>resW P env rows rs fun x=>frzA (z00 rows) 3 x=some r
 |_=>False
section
variable {P : Program} {sp : Spec} {w0 w w' : World} {fp : Nat → Prop} {S0 : Bs} {I I' : Itp} {H H' : Heap} {n nx m p q : Nat} {E E' : Nat → AV} {a : Act} {env env' : List AV} {rows rows' : List Row}
theorem zi3 (hm:Mem w0 fp S0 I H w):∀(f:Nat) (x y:AV) (v:Value),frzA H f x=some y→VR I H w x v→VR {I with S:=seen I H} (fun _=>.dead) w y v
 |f,.sc u,y,v,h,hv=>by
  have:y=scA u:=by cases f<;>cases h<;>rfl
  subst this;rw[hv.sc_inv];exact .cl _ _ (zmx u)
 |f,.ro l,y,v,h,hv=>by
  have:y=.ro l:=by cases f<;>cases h<;>rfl
  subst this;exact .cl _ _ hv.ro_inv.seen
 |f,.rp l,y,v,h,hv=>by
  have:y=.rp l:=by cases f<;>cases h<;>rfl
  subst this;exact .cl _ _ hv.rp_inv.seen
 |f,.sl K n,y,v,h,hv=>by
  have h:(match H K with
   |.lst _ l _=>if l.length=n then some (AV.ro l) else none
   |.fro l=>if l.length=n then some (.ro l) else none
   |_=>none)=some y:=by cases f<;>exact h
  split at h<;>try (cases h;done)
  · rename_i sz l e hK;split at h<;>cases h;rename_i hl;exact .cl _ _ (zdt hm (.inl ⟨sz,e,hK⟩) hl hv)
  · rename_i l hK;split at h<;>cases h;rename_i hl;exact .cl _ _ (zdt hm (.inr hK) hl hv)
 |0,.agg l,y,v,h,hv=>by cases h
 |f+1,.agg l,y,v,h,hv=>by simp only[frzA,Option.map_eq_some_iff] at h;obtain⟨m,hm',rfl⟩:=h;obtain⟨vs,rfl,g1,g2,g3⟩:=hv.agg_inv;obtain⟨k1,k2⟩:=z57 (R:=fun x v=>VR I H w x v) (R':=fun y v=>VR {I with S:=seen I H} (fun _=>.dead) w y v) (fun x y v h hv=>zi3 hm f x y v h hv) hm' g1 g3;exact .agg m vs k1 g2 k2
 |0,.tup l,y,v,h,hv=>by cases h
 |f+1,.tup l,y,v,h,hv=>by simp only[frzA,Option.map_eq_some_iff] at h;obtain⟨m,hm',rfl⟩:=h;obtain⟨vs,rfl,g1,g3⟩:=hv.tup_inv;obtain⟨k1,k2⟩:=z57 (R:=fun x v=>VR I H w x v) (R':=fun y v=>VR {I with S:=seen I H} (fun _=>.dead) w y v) (fun x y v h hv=>zi3 hm f x y v h hv) hm' g1 g3;exact .tup m vs k1 k2
 |f,.fn g l,y,v,h,hv=>by cases f<;>cases h
 |f,.ptr K o,y,v,h,hv=>by cases f<;>cases h
 |f,.lp K n i j,y,v,h,hv=>by cases f<;>cases h
 |f,.dead,y,v,h,hv=>by cases f<;>cases h
theorem z5k (hR:RelS w0 fp S0 I env rows a w){r:ResultVar}{K:AV→Prop}(h:z43 P env rows r K):∃x v,K x∧VR I (z00 rows) w x v∧(zo6 a.tmps r).run P w=.ok v w:=by
 unfold z43 at h
 cases r with
 |tmp t=>exact⟨_,_,h,z2h hR (.tmp t),rfl⟩
 |cell p t=>obtain⟨cs,g,o,vs,k1,k2,k3,k4,k5,k6⟩:=zf7 hR.mem h (z2h hR (.tmp p));obtain⟨x,v,q1,q2,q3⟩:=zj8 (P:=P) k1 k3 k4 k5 k6;refine⟨x,v,q1,q3, ?_⟩;have k2:a.tmps.getD p undef=.pointer (some ⟨g,o,none⟩):=k2;unfold zo6;simp only[k2,asAddr,Sem.run_bind,Sem.run_pure,Result.andThen_ok];simpa [Instr.loadAt,Instr.sureAddr,Sem.run_bind] using q2
theorem zo7 (hR:RelS w0 fp S0 I env rows a w){fn:Func}{K:AV→Prop}(h:resW P env rows fn.results.toList K):∃x v,K x∧VR I (z00 rows) w x v∧(results fn a.tmps).run P w=.ok v w:=by
 have hr:fn.results=fn.results.toList.toArray:=by simp
 have hdef:results fn a.tmps=(do let vs ←fn.results.mapM (zo6 a.tmps);pure (if h:vs.size=1 then vs[0] else .tuple vs):Sem Value):=by unfold results;congr 1
 rw[hdef];generalize fn.results.toList=l at*;unfold resW at h;split at h<;>try exact h.elim
 · exact⟨_,_,h,.cl _ _ (.sc _),by simp[hr];rfl⟩
 · rename_i r;obtain⟨x,v,h1,h2,h3⟩:=z5k hR h;refine⟨x,v,h1,h2, ?_⟩;simp[hr,Sem.run_bind,h3]
 · rename_i r r2;obtain⟨x,v,h,h2,h3⟩:=z5k hR h;obtain⟨x2,v2,h,h4,h5⟩:=z5k hR h;refine⟨_,.tuple [v,v2].toArray,h,.tup _ _ rfl (fun i y u a b=> ?_), ?_⟩
   · match i with
     |0=>simp at a b;subst a;subst b;exact h2
     |1=>simp at a b;subst a;subst b;exact h4
     |i+2=>simp at a
   · simp[hr,Sem.run_bind,h3,h5]
 · rename_i r r2 r3;obtain⟨x,v,h,h2,h3⟩:=z5k hR h;obtain⟨x2,v2,h,h4,h5⟩:=z5k hR h;obtain⟨x3,v3,h,h6,h7⟩:=z5k hR h;refine⟨_,.tuple [v,v2,v3].toArray,h,.tup _ _ rfl (fun i y u a b=> ?_), ?_⟩
   · match i with
     |0=>simp at a b;subst a;subst b;exact h2
     |1=>simp at a b;subst a;subst b;exact h4
     |2=>simp at a b;subst a;subst b;exact h6
     |i+3=>simp at a
   · simp[hr,Sem.run_bind,h3,h5,h7]
theorem zo8 {S:Nat→Prop}(hS:∀k,S k→k<w.heap.size){args:List AV}{vs:List Value}(hl:args.length=vs.length)(hv:∀(i:Nat) x v,args[i]? =some x→vs[i]? =some v→VC S w x v)(nt:Nat):
 RelS w (fun _=>False) ⟨S,[]⟩ ⟨fun _=>0,fun _=>undef,fun _=>none,S⟩ (args++List.replicate (nt - args.length) (.sc undef)) [] {tmps:=vs.toArray++Array.replicate (nt - vs.toArray.size) undef,defers:=[]} w:=by
 have hd:∀K,z00 [] K=.dead:=fun K=>rfl;refine⟨⟨Fr.refl _ _,fun K=>by rw[hd];trivial,fun K k hk=> ?_,fun K K' k hk=> ?_,hS,fun k hk=>hk,fun k hk=>.inl hk,fun p hp=>by cases hp⟩,rfl,by simp[hl],fun i v h=> ?_,fun i hi=> ?_⟩
 · unfold Owns at hk;rw[hd] at hk;exact hk.elim
 · unfold Owns at hk;rw[hd] at hk;exact hk.elim
 · refine .cl _ _ ?_;unfold envE;rw[List.getD_eq_getElem?_getD];by_cases hi:i<args.length
   · rw[List.getElem?_append_left hi];have h2:vs[i]? =some v:=by rw[Array.getElem?_append_left (by simp;omega)] at h;simpa using h
     rw[List.getElem?_eq_getElem hi];exact hv i _ v (List.getElem?_eq_getElem hi) h2
   · rw[List.getElem?_append_right (by omega)];rw[Array.getElem?_append_right (by simp;omega)] at h;simp only[List.size_toArray] at h;rw[Array.getElem?_replicate] at h;split at h
     · rename_i hlt;cases h;rw[List.getElem?_replicate,if_pos (by omega)];exact .sc _
     · cases h
 · unfold envE;rw[List.getD_eq_getElem?_getD,List.getElem?_eq_none hi];rfl
def ze7 :Nat→AV→Prop
 |0,_=>True
 |f+1,.agg l|f+1,.rp l=>∀x∈l,ze7 f x
 |f+1,.ro l=>l.length≤9223372036854775807∧∀e∈l,∀x∈e,ze7 f x
 |_+1,_=>True
theorem zuf {α:Type}{C:Cod α}{S:Nat→Prop}{v:Value}{l:List α}(h:Rd C w S v l):l.length≤9223372036854775807:=by obtain⟨A,cap, -,h1,h2, -⟩:=h;simp only[maxLen] at h2;omega
theorem zcz {S:Nat→Prop}:∀(f:Nat) (x:AV) (v:Value),VC S w x v→ze7 f x
 |0,_,_,_=>trivial
 |f+1,x,v,h=>by
  cases h with
  |sc u=>trivial
  |fn=>trivial
  |dead=>trivial
  |agg l vs hl h1 h2=>intro x hx;obtain⟨i,hi,rfl⟩:=List.getElem_of_mem hx;exact zcz f _ _ (h2 i _ _ (List.getElem?_eq_getElem hi) (List.getElem?_eq_getElem (by omega)))
  |rp l g o vs hg hc hl h1 h2=>intro x hx;obtain⟨i,hi,rfl⟩:=List.getElem_of_mem hx;exact zcz f _ _ (h2 i _ _ (List.getElem?_eq_getElem hi) (List.getElem?_eq_getElem (by omega)))
  |ro l sz hz cs u hr hl hn h2=>
   refine⟨by rw[hl];exact zuf hr,fun e he x hx=> ?_⟩;obtain⟨i,hi,rfl⟩:=List.getElem_of_mem he;obtain⟨j,hj,rfl⟩:=List.getElem_of_mem hx;have hw:=hn i _ (List.getElem?_eq_getElem hi);have hic:i<cs.length:=by omega
   exact zcz f _ _ (h2 i j _ (cs[i]) _ _ (List.getElem?_eq_getElem hi) (List.getElem?_eq_getElem hic) (List.getElem?_eq_getElem hj) (List.getElem?_eq_getElem (by rw[(cs[i]).2.1];omega)))
theorem zba (fl:List (Nat×Fls)){Φ:World→Prop}(hsp:∀w,Φ w→SpecOk P sp w (fun _=>False))(hmix:P.follows .mixedOrders=true){f:FuncId}{fn:Func}{c:Code}(hf:P.funcs[f]? =some fn)(hb:fn.body=some c){args:List AV}{r:AV}
 (h:(∀x∈args,ze7 6 x)→aw P sp fl c (retV P fn.results.toList r) (args++List.replicate (fn.ntmps - args.length) (.sc undef)) [])   :Con P Φ f args r []:=by
 intro w hΦ S vs hS hl hv;have h:=h (fun x hx=>by obtain⟨i,hi,rfl⟩:=List.getElem_of_mem hx;exact zcz 6 _ _ (hv i _ _ (List.getElem?_eq_getElem hi) (List.getElem?_eq_getElem (by omega))));refine calls_of_wp hf hb (wp_mono (zxf (S0:=⟨S,[]⟩) (fun p hp=>by cases hp) (hsp w hΦ) hmix c _ _ _ _ _ _ h rfl (zo8 hS hl hv fn.ntmps)) fun e a' w' hh=> ?_);obtain⟨I,env,rows,h1,h2,h3⟩:=hh
 have fin:resW P env rows fn.results.toList (fun x=>frzA (z00 rows) 3 x=some r)→a'.defers=[]∧∃v,(results fn a'.tmps).run P w'=.ok v w'∧∃v_1 I',Ending.returned v=.returned v_1∧Mem w (fun _=>False) ⟨S,[]⟩ I' (z00 []) w'∧VR I' (z00 []) w' r v_1:=fun h1=>by
  obtain⟨x,v,k1,k2,k3⟩:=zo7 h3 h1;refine⟨h3.df,v,k3,v,_,rfl, ?_,zi3 h3.mem 3 x r v k1 k2⟩;have hd:∀K,z00 [] K=.dead:=fun K=>rfl;refine⟨h3.mem.fr,fun K=>by rw[hd];trivial,fun K k hk=> ?_,fun K K' k hk=> ?_,fun k hk=> ?_,fun k hk=>.inl (h3.mem.s0 k hk),fun k hk=> ?_,fun p hp=>by cases hp⟩
  · unfold Owns at hk;rw[hd] at hk;exact hk.elim
  · unfold Owns at hk;rw[hd] at hk;exact hk.elim
  · rcases hk with hk|⟨K,hk⟩
    · exact h3.mem.slt k hk
    · exact(h3.mem.own K k hk).1
  · rcases hk with hk|⟨K,hk⟩
    · exact h3.mem.snew k hk
    · exact .inr ((h3.mem.own K k hk).2.2.resolve_left (fun h=>h))
 cases e with
 |normal=>exact fin h1
 |ret=>exact fin h1
 |exit id=>exact h1.elim
 |goto l=>exact h1.elim
 |panic ch=>exact h1.elim
 |outgrown=>exact h1.elim
def retM (P:Program)(sp:Spec)(rs:List ResultVar)(r:AV)(rows0:List Row):QT:=fun e env rows=>
 match e with
 |.ret|.normal=>resW P env rows rs fun x=>z1k (z00 rows) (z00 rows0) x r∧z1d (z00 rows) (z00 rows0) rows rows0∧pinR sp.pins rows0
 |_=>False
theorem zo9 :∀(f:Nat) (x:AV) (v:Value),VR I H w x v→ze7 f x
 |0,_,_,_=>trivial
 |f+1,x,v,h=>by
  cases h with
  |cl _ _ h=>exact zcz _ _ _ h
  |agg l vs hl h1 h2=>intro x hx;obtain⟨i,hi,rfl⟩:=List.getElem_of_mem hx;exact zo9 f _ _ (h2 i _ _ (List.getElem?_eq_getElem hi) (List.getElem?_eq_getElem (by omega)))
  |tup=>trivial
  |ptr=>trivial
  |sl=>trivial
  |lp=>trivial
  |fn=>trivial
  |dead=>trivial
def lenR :Row→Prop
 |.var cs _=>∀x∈cs,ze7 6 x
 |.lst _ l _=>l.length≤9223372036854775807∧∀e∈l,∀x∈e,ze7 6 x
 |_=>True
theorem zvu {K:Nat}{r:Row}(h:zho I H w K r):lenR r:=by
 cases r with
 |dead=>trivial
 |fro l=>trivial
 |var cs e=>obtain⟨vs,g1,g2,g3,g4⟩:=h;intro x hx;obtain⟨i,hi,rfl⟩:=List.getElem_of_mem hx;exact zo9 6 _ _ (g4 i _ _ (List.getElem?_eq_getElem hi) (List.getElem?_eq_getElem (by omega)))
 |lst sz l e=>
  obtain⟨hz,cs,g1,g2⟩:=h;refine⟨by rw[g2.len];exact zuf g1.rd,fun e he x hx=> ?_⟩;obtain⟨i,hi,rfl⟩:=List.getElem_of_mem he;obtain⟨j,hj,rfl⟩:=List.getElem_of_mem hx;have hw:=g2.wide i _ (List.getElem?_eq_getElem hi);have hic:i<cs.length:=by have:=g2.len;omega
  exact zcz 6 _ _ (g2.ok i j _ (cs[i]) _ _ (List.getElem?_eq_getElem hi) (List.getElem?_eq_getElem hic) (List.getElem?_eq_getElem hj) (List.getElem?_eq_getElem (by rw[(cs[i]).2.1];omega)))
theorem zlj (hM:Mem w fp S0 I (z00 rows) w){args:List AV}{vs:List Value}(hl:args.length=vs.length)(hv:∀(i:Nat) x v,args[i]? =some x→vs[i]? =some v→VR I (z00 rows) w x v)(nt:Nat):
 RelS w fp S0 I (args++List.replicate (nt - args.length) (.sc undef)) rows {tmps:=vs.toArray++Array.replicate (nt - vs.toArray.size) undef,defers:=[]} w:=by
 refine⟨hM,rfl,by simp[hl],fun i v h=> ?_,fun i hi=> ?_⟩
 · unfold envE;rw[List.getD_eq_getElem?_getD];by_cases hi:i<args.length
   · rw[List.getElem?_append_left hi];have h2:vs[i]? =some v:=by rw[Array.getElem?_append_left (by simp;omega)] at h;simpa using h
     rw[List.getElem?_eq_getElem hi];exact hv i _ v (List.getElem?_eq_getElem hi) h2
   · rw[List.getElem?_append_right (by omega)];rw[Array.getElem?_append_right (by simp;omega)] at h;simp only[List.size_toArray] at h;rw[Array.getElem?_replicate] at h;split at h
     · rename_i hlt;cases h;rw[List.getElem?_replicate,if_pos (by omega)];exact .cl _ _ (.sc _)
     · cases h
 · unfold envE;rw[List.getD_eq_getElem?_getD,List.getElem?_eq_none hi];rfl
theorem z9d (fl:List (Nat×Fls)){Φ:World→Prop}{Fp:Nat→Prop}(hsp:∀w fp,Φ w→(∀k,fp k→Fp k)→SpecOk P sp w fp)(hmix:P.follows .mixedOrders=true){f:FuncId}{fn:Func}{c:Code}(hf:P.funcs[f]? =some fn)(hb:fn.body=some c){args:List AV}{r:AV}{rows rows':List Row}
 (hp:pinR sp.pins rows) (hvar:∀K cs e,z00 rows K=.var cs e→K<sp.pins)
 (h:(∀x∈args,ze7 6 x)→(∀r∈rows,lenR r)→aw P sp fl c (retM P sp fn.results.toList r rows') (args++List.replicate (fn.ntmps - args.length) (.sc undef)) rows) (w:World) (hΦ:Φ w):ConMAt P w Fp f args rows r rows':=by
 intro fp S I vs hfp hM hl hv
 have h:=h (fun x hx=>by
  obtain⟨i,hi,rfl⟩:=List.getElem_of_mem hx
  exact zo9 6 _ _ (hv i _ _ (List.getElem?_eq_getElem hi) (List.getElem?_eq_getElem (by omega)))) (fun r hr=>by
  obtain⟨K,hK,rfl⟩:=List.getElem_of_mem hr;have:=hM.rows K;have e:z00 rows K=rows[K]:=by unfold z00;rw[List.getD_eq_getElem?_getD,List.getElem?_eq_getElem hK];rfl
  rw[e] at this;exact zvu this)
 have hM2:Mem w fp ⟨S,(List.range sp.pins).map fun K=>(K,I.ρ K)⟩ I (z00 rows) w:=⟨hM.fr,hM.rows,hM.own,hM.sep,hM.slt,hM.s0,hM.snew,fun p hpm=>by rw[List.mem_map] at hpm;obtain⟨K,hK,rfl⟩:=hpm;obtain⟨cs,e,h7⟩:=zaj hp K (List.mem_range.1 hK);exact .ptr K 0 cs e h7⟩;have hpn:∀p∈(⟨S,(List.range sp.pins).map fun K=>(K,I.ρ K)⟩:Bs).pins,p.1<sp.pins:=fun p hpm=>by have hpm:p∈(List.range sp.pins).map fun K=>(K,I.ρ K):=hpm;rw[List.mem_map] at hpm;obtain⟨K,hK,rfl⟩:=hpm;exact List.mem_range.1 hK
 refine calls_of_wp hf hb (wp_mono (zxf (S0:=⟨S,(List.range sp.pins).map fun K=>(K,I.ρ K)⟩) hpn (hsp w fp hΦ hfp) hmix c _ _ _ _ _ _ h rfl (zlj hM2 hl hv fn.ntmps)) fun e a' w' hh=> ?_);obtain⟨I2,env,rows2,h1,h2,h3⟩:=hh
 have fin:resW P env rows2 fn.results.toList (fun x=>z1k (z00 rows2) (z00 rows') x r∧z1d (z00 rows2) (z00 rows') rows2 rows'∧pinR sp.pins rows')→a'.defers=[]∧∃v,(results fn a'.tmps).run P w'=.ok v w'∧∃v_1 I',Ending.returned v=.returned v_1∧Mem w fp ⟨S,[]⟩ I' (z00 rows') w'∧VR I' (z00 rows') w' r v_1∧∀K cs e,z00 rows K=.var cs e→I'.ρ K=I.ρ K∧∃cs' e',z00 rows' K=.var cs' e':=fun h1=>by
  obtain⟨x,v,⟨k0,k1,k4⟩,k2,k3⟩:=zo7 h3 h1
  have hR2:RelS w fp ⟨S,(List.range sp.pins).map fun K=>(K,I.ρ K)⟩ I2 [x] rows2 ⟨#[v],[]⟩ w':=by
   refine⟨h3.mem,rfl,rfl,fun i u hu=> ?_,fun i hi=> ?_⟩
   · match i with
     |0=>cases hu;exact k2
     |i+1=>simp at hu
   · unfold envE;rw[List.getD_eq_getElem?_getD,List.getElem?_eq_none hi];rfl
  have hW:Weak [x] rows2 [r] rows':=⟨⟨k0,trivial⟩,k1⟩;have hfin:=hW.ok (fun p hpm=>zaj k4 p.1 (hpn p hpm)) hR2;refine⟨h3.df,v,k3,v,_,rfl,⟨hfin.mem.fr,hfin.mem.rows,hfin.mem.own,hfin.mem.sep,hfin.mem.slt,hfin.mem.s0,hfin.mem.snew,fun p hpm=>by cases hpm⟩,hfin.env 0 v rfl,fun K cs e hK=> ?_⟩;have hlt:=hvar K cs e hK;have hm:(K,I.ρ K)∈(List.range sp.pins).map fun K=>(K,I.ρ K):=List.mem_map.2 ⟨K,List.mem_range.2 hlt,rfl⟩;obtain⟨q1,cs',e',q2⟩:=(hfin.mem.pin (K,I.ρ K) hm).ptr_inv;refine⟨?_,cs',e',q2⟩;simp only[Value.pointer.injEq,Option.some.injEq,Addr.mk.injEq] at q1;exact q1.1.symm
 cases e with
 |normal=>exact fin h1
 |ret=>exact fin h1
 |exit id=>exact h1.elim
 |goto l=>exact h1.elim
 |panic ch=>exact h1.elim
 |outgrown=>exact h1.elim
end
end Go.Proofs.YtnlacmnoocigiaaGreatDoor.Aw
