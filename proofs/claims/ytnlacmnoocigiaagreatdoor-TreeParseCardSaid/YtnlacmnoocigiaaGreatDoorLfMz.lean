/- What the row's laid variables and the world's shape give: St; the wrap with both; a start that meets the laid list. -/
import Derived.Test.YtnlacmnoocigiaaGreatDoorBldSm
import Derived.Test.YtnlacmnoocigiaaGreatDoorRows
import Derived.ProofKit
import Derived.LaidMore
import Derived.OpenShut
import Derived.Stop.Joined
import Derived.HandedShaped
import Derived.Shelf.Vars
import Derived.Lay
import Derived.Test.YtnlacmnoocigiaaGreatDoorTie
import Derived.Test.YtnlacmnoocigiaaGreatDoorCards
import Derived.SevenTiedAt
import Derived.JoinedOf
namespace Go.Proofs.YtnlacmnoocigiaaGreatDoor
open Go.ChangeShapes Go.WideShapes Go.ChangeAt Go.RowKit Go.WideMaps Go.WideElems
theorem zw4 :ownKnob Tryz.prog.godebug=none:=by kernel_rfl
theorem zt0 :laidOutB Tryz.prog=true:=by kernel_rfl
section
variable {H : Type} {enc : TypeId × Value → H}
theorem zk6 {a:Assume}{C:Checked}{os:Os}{f:FuncId}{fn:Func}{s:ChangeSpec}{conds:List PathCond}{apart fresh handsOn again:Bool}{X:World→Array Value→Prop}
 (hX:∀(w w':World) (args:Array Value),w.heap=w'.heap→X w args→X w' args)
 (own:ownKnob C.prog.godebug=none) (started:os.Started) (noInit:C.prog.inits.idxOf? f=none) (hfn:C.prog.funcs[f]? =some fn)
 (witness:∃(w:World) (tape:Tape) (i:Input),w.os=os∧(w.forCall tape i).Shaped C.prog∧i.vars=[]∧Input.okWide C.prog (w.forCall tape i) .any w.heap.size f i∧
  ((s.pre enc C.prog fn conds apart (w.forCall tape i).memory i.args∧X (w.forCall tape i).memory i.args)∧sizedMet enc C.prog fn (OpenSpec.ofChange s) apart (w.forCall tape i).memory i.args)∧a.holds C.prog (lone (Frame.enter C.prog f i.args .normal) [] (w.forCall tape i)))
 (contract:∀(W:World) (base:Nat) (args:Array Value) (ds gs:List (DataW H)) (before:List MemPlace),
  (∀(j:Nat) t v,fn.params[j]? =some t→args[j]? =some v→Value.okWide C.prog W .any base t v)→
  DataW.Whole enc C.prog fn.params.toList s.vars apart W args.toList ds gs before→
  X W args→W.ShapedOpen C.prog→
  Calls C.prog f args W fun e W'=>∃v,e=.returned v∧s.post enc C.prog fn apart fresh handsOn again W args v W'):
 ReturnsInHanded a C os f .any (fun w args=>(s.pre enc C.prog fn conds apart w args∧X w args)∧sizedMet enc C.prog fn (OpenSpec.ofChange s) apart w args) (s.post enc C.prog fn apart fresh handsOn again):=by
 refine returnsInHanded_of_calls own started noInit witness ?_;intro w tape i _ hsh _ hok hpre hholds;obtain⟨_,_,_,fn',hfn',_,_,_,_,hval⟩:=hok;have e:fn'=fn:=Option.some.inj (hfn'.symm.trans hfn);subst e;obtain⟨⟨⟨ds,gs,before,hw,hc⟩,hx⟩,hz⟩:=hpre;have hw':=DataW.Whole.of_heap (w':=w.forCall tape i) (by rfl) hw;refine(contract (w.forCall tape i) w.heap.size i.args ds gs before hval hw' (hX _ _ _ (by rfl) hx) hsh).mono fun e W' ⟨v,he,hp⟩=> ?_;subst he;exact ChangeSpec.post_blind hp
theorem zeh {a:Assume}{C:Checked}{os:Os}{f:FuncId}{fn:Func}{s:ChangeSpec}{conds:List PathCond}{apart fresh handsOn again:Bool}{X:World→Array Value→Prop}
 (hX:∀(w w':World) (args:Array Value),w.heap=w'.heap→X w args→X w' args)
 (own:ownKnob C.prog.godebug=none) (started:os.Started) (noInit:C.prog.inits.idxOf? f=none) (hfn:C.prog.funcs[f]? =some fn)
 (witness:∃(w:World) (tape:Tape) (i:Input),w.os=os∧(w.forCall tape i).Shaped C.prog∧i.vars=[]∧Input.okWide C.prog (w.forCall tape i) .any w.heap.size f i∧
  ((s.pre enc C.prog fn conds apart (w.forCall tape i).memory i.args∧X (w.forCall tape i).memory i.args)∧sizedMet enc C.prog fn (OpenSpec.ofChange s) apart (w.forCall tape i).memory i.args)∧a.holds C.prog (lone (Frame.enter C.prog f i.args .normal) [] (w.forCall tape i)))
 (contract:∀(W:World) (base:Nat) (args:Array Value) (ds gs:List (DataW H)) (before:List MemPlace),
  (∀(j:Nat) t v,fn.params[j]? =some t→args[j]? =some v→Value.okWide C.prog W .any base t v)→
  DataW.Whole enc C.prog fn.params.toList s.vars apart W args.toList ds gs before→
  X W args→W.ShapedOpen C.prog→
  (∃ds2 gs2 before2,DataW.Whole enc C.prog fn.params.toList (OpenSpec.ofChange s).vars apart W args.toList ds2 gs2 before2∧(DataW.weightsEach C.prog (fn.params.toList++(OpenSpec.ofChange s).bare.plain.varTypes C.prog) (ds2++gs2)).all (· ≤reachBytes)=true)→
  Calls C.prog f args W fun e W'=>∃v,e=.returned v∧s.post enc C.prog fn apart fresh handsOn again W args v W'):
 ReturnsInHanded a C os f .any (fun w args=>(s.pre enc C.prog fn conds apart w args∧X w args)∧sizedMet enc C.prog fn (OpenSpec.ofChange s) apart w args) (s.post enc C.prog fn apart fresh handsOn again):=by
 refine returnsInHanded_of_calls own started noInit witness ?_;intro w tape i _ hsh _ hok hpre hholds;obtain⟨_,_,_,fn',hfn',_,_,_,_,hval⟩:=hok;have e:fn'=fn:=Option.some.inj (hfn'.symm.trans hfn);subst e;obtain⟨⟨⟨ds,gs,before,hw,hc⟩,hx⟩,hz⟩:=hpre;have hw':=DataW.Whole.of_heap (w':=w.forCall tape i) (by rfl) hw;refine(contract (w.forCall tape i) w.heap.size i.args ds gs before hval hw' (hX _ _ _ (by rfl) hx) hsh (by obtain⟨-,ds2,gs2,before2,hw2,hwt⟩:=hz;exact⟨ds2,gs2,before2,DataW.Whole.of_heap (w':=w.forCall tape i) (by rfl) hw2,hwt⟩)).mono fun e W' ⟨v,he,hp⟩=> ?_;subst he;exact ChangeSpec.post_blind hp
theorem zor {P:Program}{w:World}{base:Nat}{sp:Nat→Bool}{held:Bool}{fuel:Nat}{t:TypeId}{ms:Array (String×TypeId)}{cs:List Value}{nm:String}{d:DataW H}{p:List MemPlace}
 (ht:P.underlying t=some (.interface ms)) (h:DataW.trod enc P w base sp held fuel t cs=some (.iface nm d,p)):∃u v,cs=[.iface u v]:=by
 cases fuel with
 |zero=>simp[DataW.trod] at h
 |succ n=>unfold DataW.trod at h;rw[ht] at h;split at h<;>simp_all
end
abbrev zid :List (String×DataW Unit):=Rows.treeParseRow.laid
theorem zt1 (os:Os)(args:Array Value):laidMetH Tryz.prog zid ((World.laidAll Tryz.prog os zid).forCall (fun _ _=>0) ⟨#[],args,[]⟩).memory:=by rw[MakeChecks.laidMetH_plain _ _ _ (by kernel_rfl)];exact laidMet_laidAll args (by kernel_rfl) (by kernel_rfl)
theorem gES :Tryz.prog.globalNamed "strconv.ErrSyntax" =some 4:=by kernel_rfl
theorem gUB :Tryz.prog.globalNamed "hopscotch/utf.bounds" =some 0:=by kernel_rfl
theorem tES :(Tryz.prog.globals[4]?).map (·.type)=some 120:=by kernel_rfl
theorem tUB :(Tryz.prog.globals[0]?).map (·.type)=some 211:=by kernel_rfl
theorem cUB :Tryz.prog.cellsOf 210=2:=by kernel_rfl
theorem cRU :Tryz.prog.cellsOf 21=1:=by kernel_rfl
theorem z5m {P:Program}{w:World}{base:Nat}{sp:Nat→Bool}{held:Bool}{fuel:Nat}{t e:TypeId}{cs:List Value}{x y:Int}{H:Type}{enc:TypeId×Value→H}
 (ht:P.underlying t=some (.array 2 e)) (he:P.underlying e=some (.int .i32)) (hc:P.cellsOf e=1)
 (h:(DataW.trod enc P w base sp held fuel t cs).map (·.1)=some (.agg [.lit (.int .i32 x),.lit (.int .i32 y)])):cs[0]? =some (.int .i32 x)∧cs[1]? =some (.int .i32 y):=by
 obtain⟨r,hr,h1⟩:=Option.map_eq_some_iff.1 h;obtain⟨xs,m,rfl,rfl,hlen,hn,hel⟩:=DataW.trod_array ht hr;simp only[DataW.agg.injEq] at h1
 match xs,hn,h1,hel 0 (by omega),hel 1 (by omega) with
 |[a,b],_,h1,e0,e1=>
  simp only[List.map_cons,List.map_nil,List.cons.injEq,and_true] at h1;rw[hc] at e0 e1;obtain⟨k,k1,k2, -⟩:=DataW.trod_int he (show DataW.trod enc P w base sp held m e _=some a from e0);obtain⟨l,l1,l2, -⟩:=DataW.trod_int he (show DataW.trod enc P w base sp held m e _=some b from e1);rw[k2,l2] at h1;simp only[DataW.lit.injEq,Lit.int.injEq,true_and] at h1;obtain⟨rfl,rfl⟩:=h1
  match cs,k1,l1 with
  |[],k1,_=>simp at k1
  |[c],_,l1=>simp at l1
  |c::d::_,k1,l1=>simp at k1 l1;subst k1;subst l1;exact⟨rfl,rfl⟩
theorem zw5 {W:World}(h:laidMetH Tryz.prog zid W)(hsh:W.ShapedOpen Tryz.prog):St W:=by
 rw[MakeChecks.laidMetH_plain _ _ _ (by kernel_rfl)] at h;obtain⟨ps,⟨g0,t0,cs0,f0,p0,q0,hg0,ht0,hv0,hd0,⟨g1,t1,cs1,f1,p1,q1,hg1,ht1,hv1,hd1,⟨g2,t2,cs2,f2,p2,q2,hg2,ht2,hv2,hd2,⟨g3,t3,cs3,f3,p3,q3,hg3,ht3,hv3,hd3,⟨g4,t4,cs4,f4,p4,q4,hg4,ht4,hv4,hd4,⟨g5,t5,cs5,f5,p5,q5,hg5,ht5,hv5,hd5,⟨g6,t6,cs6,f6,p6,q6,hg6,ht6,hv6,hd6,⟨g7,t7,cs7,f7,p7,q7,hg7,ht7,hv7,hd7,_,_⟩,_⟩,_⟩,_⟩,_⟩,_⟩,_⟩,_⟩,_,_⟩:=h;obtain rfl:=Option.some.inj (gES.symm.trans hg5);obtain rfl:=Option.some.inj (gUB.symm.trans hg6);obtain rfl:=Option.some.inj (tES.symm.trans ht5);obtain rfl:=Option.some.inj (tUB.symm.trans ht6);refine⟨?_,Go.Proofs.cell_of_shapedOpen_int (zero:= #[.int .i64 0]) (t:=3) hsh (of_decide_eq_true (by kernel_rfl)) (by kernel_rfl) rfl (by kernel_rfl) (by kernel_rfl) Tryz.underlying3, ?_⟩
 · intro j x hx;rw[World.var?_cell hg6 hv6 j];obtain⟨xs,m,rfl,hx1,hlen,hn,hel⟩:=DataW.trod_array Tryz.underlying211 hd6;simp only[Rows.laid_hopscotch_utf_bounds,Prod.mk.injEq,DataW.agg.injEq] at hx1;rw[cUB] at hel
   match xs,hn,hx1.1,hel 0 (by omega),hel 1 (by omega),hel 2 (by omega),hel 3 (by omega),hel 4 (by omega) with
   |[a,b,c,d,e],_,hx1,e0,e1,e2,e3,e4=>
    simp only[List.map_cons,List.map_nil,List.cons.injEq,and_true] at hx1;obtain⟨x0,x1,x2,x3,x4⟩:=hx1;have g0:=z5m Tryz.underlying210 Tryz.underlying21 cRU (x:=9) (y:=10) (by rw[e0];simp[←x0]);have g1:=z5m Tryz.underlying210 Tryz.underlying21 cRU (x:=13) (y:=13) (by rw[e1];simp[←x1]);have g2:=z5m Tryz.underlying210 Tryz.underlying21 cRU (x:=32) (y:=55295) (by rw[e2];simp[←x2]);have g3:=z5m Tryz.underlying210 Tryz.underlying21 cRU (x:=57344) (y:=65533) (by rw[e3];simp[←x3]);have g4:=z5m Tryz.underlying210 Tryz.underlying21 cRU (x:=65536) (y:=1114111) (by rw[e4];simp[←x4]);simp only[List.getElem?_take,List.getElem?_drop] at g0 g1 g2 g3 g4;simp at g0 g1 g2 g3 g4;unfold bC at hx;rcases j with _|_|_|_|_|_|_|_|_|_|j<;>simp at hx
    · subst hx;exact g0.1
    · subst hx;exact g0.2
    · subst hx;exact g1.1
    · subst hx;exact g1.2
    · subst hx;exact g2.1
    · subst hx;exact g2.2
    · subst hx;exact g3.1
    · subst hx;exact g3.2
    · subst hx;exact g4.1
    · subst hx;exact g4.2
 · obtain⟨u,v,hc⟩:=zor Tryz.underlying120 hd5;refine⟨u,v, ?_⟩;rw[World.var?_cell hg5 hv5 0];obtain⟨l⟩:=cs5;simp only at hc;subst hc;rfl
end Go.Proofs.YtnlacmnoocigiaaGreatDoor
namespace Go.Proofs.YtnlacmnoocigiaaGreatDoor
open Go.ChangeShapes Go.WideShapes Go.ChangeAt Go.RowKit Go.WideMaps Go.WideElems
set_option maxRecDepth 100000
theorem zfy :Tryz.prog.inPlace 3=Rows.treeParseRow.inPlace:=by kernel_rfl
theorem zfz :Tryz.prog.unfollowed 3=Rows.treeParseRow.unfollowed:=by kernel_rfl
theorem zg0 :Tryz.prog.recurses 3=Rows.treeParseRow.recurses:=by kernel_rfl
theorem zg1 :Tryz.prog.varsNamed 3=Rows.treeParseRow.named:=by kernel_rfl
theorem zg2 :laidOutB Tryz.prog=true:=by kernel_rfl
theorem zg3 :mapsRowed Tryz.prog=true:=by kernel_rfl
theorem zg4 :Tryz.prog.plainKeys=Rows.treeParseRow.plainKeys:=by kernel_rfl
theorem zg5 :Tryz.prog.stopsHeard=true:=by kernel_rfl
theorem zg6 :Tryz.prog.mayEnter=true:=by kernel_rfl
theorem zei :Rows.treeParseRow.veiledFits Tryz.prog Tryz.f3.params.toList (Tryz.f3.params.toList++Rows.treeParseSpec.plain.varTypes Tryz.prog++Tryz.f3.resultTypes.toList)=true:=by kernel_rfl
theorem zej :Tryz.prog.stops=[]:=by kernel_rfl
theorem zek :Tryz.prog.stopKnobs=[]:=by kernel_rfl
theorem zel :Tryz.prog.liftsFinal=Rows.treeParseRow.lifted:=by kernel_rfl
theorem zem :Tryz.prog.make=some Rows.treeParseRow.make:=by kernel_rfl
theorem zbm :joinedFacts Tryz.prog 3 Tryz.f3 Rows.treeParseSpec Rows.treeParseRow=true:=by
 unfold joinedFacts;rw[zfy,zfz,zg0,zg1,zg2,zg3,zg4,zg5,zg6,zei,zej,zek,zel,zem]
 kernel_rfl
theorem treeParse_k1 :Tryz.prog.funcNamed "hopscotch/hopscotchlaw05.TreeParse" =some 3:=by kernel_rfl
theorem zg7 :Rows.treeParseRow.wfByText (OpenSpec.ofChange Rows.treeParseSpec)=true:=by kernel_rfl
theorem zg8 :Tryz.prog.mainIs=some (true, "e35263594da013d8a7f905cbd9e25457205a10dfa59d4ca773c12d6893463907".toList):=by kernel_rfl
theorem zg9 :true=Tryz.prog.looks []:=by kernel_rfl
theorem zga :false=Rows.treeParseRow.goesBy Tryz.prog:=by kernel_rfl
end Go.Proofs.YtnlacmnoocigiaaGreatDoor
