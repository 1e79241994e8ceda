/- Traces: what the row's laid variables and the world's shape give; the wrap with both; a start that meets the laid list. -/
import Derived.Test.YtpjodoipceddpaaGreatDoorRcCd
import Derived.Test.YtpjodoipceddpaaGreatDoorRows
import Derived.ProofKit
import Derived.LaidMore
import Derived.OpenShut
import Derived.Stop.Joined
import Derived.Stop.LaidErr
import Derived.Lib.LaidTab
import Derived.HandedShaped
import Derived.Shelf.Vars
import Derived.Lay
namespace Go.Proofs.YtpjodoipceddpaaGreatDoor
open Go.ChangeShapes Go.WideShapes Go.ChangeAt Go.RowKit Go.WideMaps Go.WideElems
theorem law_own :ownKnob Tryz.prog.godebug=none:=by kernel_rfl
section
variable {H : Type} {enc : TypeId × Value → H}
theorem returns_sized {a:Assume} {C:Checked} {os:Os} {f:FuncId} {fn:Func} {s:ChangeSpec} {conds:List PathCond} {apart fresh handsOn again:Bool} {X:World→Array Value→Prop}
 (hX:∀(w w':World) (args:Array Value),w.heap=w'.heap→X w args→X w' args)
 (own:ownKnob C.prog.godebug=none) (started:os.Started) (noInit:C.prog.inits.idxOf? f=none) (hfn:C.prog.funcs[f]? =some fn)
 (witness:∃(w:World) (tape:Tape) (i:Input),w.os=os∧(w.forCall tape i).Shaped C.prog∧i.vars=[]∧Input.okWide C.prog (w.forCall tape i) .any w.heap.size f i∧
  ((s.pre enc C.prog fn conds apart (w.forCall tape i).memory i.args∧X (w.forCall tape i).memory i.args)∧sizedMet enc C.prog fn (OpenSpec.ofChange s) apart (w.forCall tape i).memory i.args)∧a.holds C.prog (lone (Frame.enter C.prog f i.args .normal) [] (w.forCall tape i)))
 (contract:∀(W:World) (base:Nat) (args:Array Value) (ds gs:List (DataW H)) (before:List MemPlace),
  (∀(j:Nat) t v,fn.params[j]? =some t→args[j]? =some v→Value.okWide C.prog W .any base t v)→
  DataW.Whole enc C.prog fn.params.toList s.vars apart W args.toList ds gs before→
  X W args→W.ShapedOpen C.prog→
  (∃ds2 gs2 before2,DataW.Whole enc C.prog fn.params.toList (OpenSpec.ofChange s).vars apart W args.toList ds2 gs2 before2∧(DataW.weightsEach C.prog (fn.params.toList++(OpenSpec.ofChange s).bare.plain.varTypes C.prog) (ds2++gs2)).all (· ≤reachBytes)=true)→
  Calls C.prog f args W fun e W'=>∃v,e=.returned v∧s.post enc C.prog fn apart fresh handsOn again W args v W'):
 ReturnsInHanded a C os f .any (fun w args=>(s.pre enc C.prog fn conds apart w args∧X w args)∧sizedMet enc C.prog fn (OpenSpec.ofChange s) apart w args) (s.post enc C.prog fn apart fresh handsOn again):=by
 refine returnsInHanded_of_calls own started noInit witness ?_
 intro w tape i _ hsh _ hok hpre hholds
 obtain⟨_,_,_,fn',hfn',_,_,_,_,hval⟩:=hok
 have e:fn'=fn:=Option.some.inj (hfn'.symm.trans hfn)
 subst e
 obtain⟨⟨⟨ds,gs,before,hw,hc⟩,hx⟩,hz⟩:=hpre
 have hw':=DataW.Whole.of_heap (w':=w.forCall tape i) (by rfl) hw
 refine(contract (w.forCall tape i) w.heap.size i.args ds gs before hval hw' (hX _ _ _ (by rfl) hx) hsh (by
  obtain⟨-,ds2,gs2,before2,hw2,hwt⟩:=hz
  exact⟨ds2,gs2,before2,DataW.Whole.of_heap (w':=w.forCall tape i) (by rfl) hw2,hwt⟩)).mono fun e W' ⟨v,he,hp⟩=> ?_
 subst he
 exact ChangeSpec.post_blind hp
end
abbrev laidL :List (String×DataW Unit):=Rows.traceGetsRow.laid
theorem door_met (os:Os) (args:Array Value):laidMetH Tryz.prog laidL ((World.laidAll Tryz.prog os laidL).forCall (fun _ _=>0) ⟨#[],args,[]⟩).memory:=by
 rw[MakeChecks.laidMetH_plain _ _ _ (by kernel_rfl)]
 exact laidMet_laidAll args (by kernel_rfl) (by kernel_rfl)
theorem gP10 :Tryz.prog.globalNamed "internal/strconv.uint64pow10" =some 5:=by kernel_rfl
theorem gER :Tryz.prog.globalNamed "strconv.ErrRange" =some 1:=by kernel_rfl
theorem gSg :Tryz.prog.globalNamed "hopscotch/lex.signs" =some 2:=by kernel_rfl
theorem tP10 :(Tryz.prog.globals[5]?).map (·.type)=some 157:=by kernel_rfl
theorem tER :(Tryz.prog.globals[1]?).map (·.type)=some 67:=by kernel_rfl
theorem tSg :(Tryz.prog.globals[2]?).map (·.type)=some 77:=by kernel_rfl
theorem eStar : "*" ++ "errors.errorString" = "*errors.errorString" :=by decide
theorem rowES (u:TypeId) (h:Tryz.prog.typeName? 3 u=some "*errors.errorString"):u=166:=
 typeName_ptr_named (nm:= "errors.errorString") (by rw[eStar];kernel_rfl) (by kernel_rfl) (by decide) u (by rw[eStar];exact h)
theorem cStr :Tryz.prog.cellsOf 9=1:=by kernel_rfl
theorem of_laid {W:World} (h:laidMetH Tryz.prog laidL W) (hsh:W.ShapedOpen Tryz.prog):Aw.TrS W:=by
 rw[MakeChecks.laidMetH_plain _ _ _ (by kernel_rfl)] at h
 have h2:=h.tail.tail
 have h4:=h2.tail.tail
 have h6:=h4.tail.tail
 refine⟨⟨?_,Go.Proofs.cell_of_shapedOpen_int (zero:= #[.int .i64 0]) (t:=3) hsh (of_decide_eq_true (by kernel_rfl)) (by kernel_rfl) rfl (by kernel_rfl) (by kernel_rfl) Tryz.underlying3, ?_⟩, ?_⟩
 · exact Lib.tabIs_of_head (zs:=Lib.pow10Tab) gP10 tP10 Tryz.underlying157 Tryz.underlying129 (by kernel_rfl) (by kernel_rfl) (show laidMet Tryz.prog (("internal/strconv.uint64pow10",Lib.tabData .u64 Lib.pow10Tab)::_) W from h2)
 · obtain⟨ps,⟨g,t,cs,f,p,q,hg,ht,hv,hd, -, -⟩, -⟩:=h6
   obtain rfl:=Option.some.inj (gSg.symm.trans hg)
   obtain rfl:=Option.some.inj (tSg.symm.trans ht)
   obtain⟨xs,m,rfl,hx1,hlen,hn,hel⟩:=DataW.trod_array Tryz.underlying77 hd
   rw[cStr] at hel
   intro i hi
   have hi2:i<xs.length:=by omega
   obtain⟨s,hs1,hs2, -⟩:=DataW.trod_string Tryz.underlying9 ((hel i (by omega)).trans (List.getElem?_eq_getElem hi2))
   rw[World.var?_cell hg hv i]
   have hx2:(Rc.signs.map fun t=>(DataW.lit (.string t):DataW Unit))=xs.map (·.1):=DataW.agg.inj (show DataW.agg (Rc.signs.map fun t=>(DataW.lit (.string t):DataW Unit))=DataW.agg (xs.map (·.1)) from congrArg Prod.fst hx1)
   have hx3:=congrArg (fun l=>l[i]?) hx2
   simp only[List.getElem?_map] at hx3
   rw[List.getElem?_eq_getElem hi2,List.getElem?_eq_getElem (show i<Rc.signs.length from hi),Option.map_some,Option.map_some,hs2] at hx3
   simp only[Option.some.injEq,DataW.lit.injEq,Lit.string.injEq] at hx3
   have h0:=congrArg (fun l=>l[0]?) hs1
   simp only[List.getElem?_cons_zero,List.getElem?_take,List.getElem?_drop,Nat.mul_one,Nat.add_zero] at h0
   rw[if_pos (by decide)] at h0
   rw[←Array.getElem?_toList,h0,List.getD_eq_getElem?_getD,List.getElem?_eq_getElem (show i<Rc.signs.length from hi),Option.getD_some,hx3]
 · obtain⟨a,s,hv, -⟩:=laid_sentinel h4 gER tER Tryz.underlying67 rowES Tryz.underlying166 Tryz.underlying168 rfl rfl Tryz.underlying9 (by kernel_rfl) cStr
   refine⟨a, ?_⟩
   rw[World.var?_cell gER hv 0]
   rfl
end Go.Proofs.YtpjodoipceddpaaGreatDoor
