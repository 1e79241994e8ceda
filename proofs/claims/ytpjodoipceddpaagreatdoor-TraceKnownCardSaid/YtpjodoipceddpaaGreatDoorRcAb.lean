/- Traces: numbers that are read, to the program: which texts are written so, walked abstractly; errors.Is, where a number's error is asked for. -/
import Derived.Test.YtpjodoipceddpaaGreatDoorRecVx
import Derived.LaidEql
import Derived.Stop.Asserts
import Derived.WalkKit
import Derived.RowKitTokens
namespace Go.Proofs.YtpjodoipceddpaaGreatDoor.Aw
open Go.RowKit Go.Lib Rc Go.Extern.Stop Go.Stop Go.Extern
set_option maxHeartbeats 8000000
set_option maxRecDepth 100000
theorem trim_dgs (t:T):trimPrefix t [45]=dgs t:=by
 unfold trimPrefix hasPrefix dgs
 cases t with
 |nil=>rfl
 |cons c r=>
  by_cases h:c=45
  · subst h;rfl
  · have:([45]:T).isPrefixOf (c::r)=false:=by
     rw[List.isPrefixOf]
     have:((45:UInt8)==c)=false:=by rw[beq_eq_false_iff_ne];exact fun e=>h e.symm
     rw[this,Bool.false_and]
    rw[this,if_neg (by simp)]
    split
    · rename_i h2;cases h2;exact absurd rfl h
    · rfl
theorem dgs_len (t:T):(dgs t).length≤t.length:=by
 unfold dgs
 split
 · exact Nat.le_succ _
 · exact Nat.le_refl _
noncomputable def spA1 :Spec:=spN.tell 96 (byE eSS (fun _=>True) (fun x=>.sc (.string (bt (trimPrefix x.1.data.toList x.2.data.toList)))))
theorem spA1_at {s:ByteArray}:spA1.call 96 [.sc (.string s),.sc (.string ⟨#[45]⟩)]=some (True,.sc (.string (bt (dgs s.data.toList))),[]):=by
 unfold spA1
 rw[tell_same]
 have:=byE_eq (pre:=fun _:ByteArray×ByteArray=>True) (r:=fun x=>AV.sc (.string (bt (trimPrefix x.1.data.toList x.2.data.toList)))) eSS_inj (s,⟨#[45]⟩)
 rw[show (⟨#[45]⟩:ByteArray).data.toList=[45] from rfl] at this
 simp only at this
 rw[trim_dgs] at this
 exact this
theorem spA1_ok (w:World) {fp:Nat→Prop}:SpecOk Tryz.prog spA1 w fp:=
 tell_ok (spN_ok w) (enters_of' Tryz.func96 (by kernel_rfl)) (byE_ok fun x _ w' _=>con_sc (vl:=[.string x.1,.string x.2]) ((Tryz.strings_TrimPrefix x.1 x.2 w').mono fun e w'' ⟨h1,h2⟩=>⟨h1,h2 ▸ Fr.refl _ _⟩))
theorem isD_no {c:UInt8}:isD c=(!decide ((c.toNat:Int)<48) && !decide ((c.toNat:Int)>57)):=by
 unfold isD
 rw[Bool.eq_iff_iff]
 simp only[Bool.and_eq_true,decide_eq_true_eq,Bool.not_eq_true',decide_eq_false_iff_not]
 omega
theorem written_con (s:ByteArray) (hs:s.size≤9000000000000000000) (w:World):ConAt Tryz.prog w 80 (eS s) (.sc (.bool (wrB s.data.toList))) []:=by
 unfold eS
 refine con_of_aw (sp:=spA1) (Φ:=fun _=>True) [] (fun w _=>spA1_ok w) (by kernel_rfl) Tryz.func80 rfl ?_ w trivial
 intro hLen
 simp only[Tryz.ntmps80,List.length_cons,List.length_nil,Nat.reduceAdd,Nat.reduceSub,List.replicate_succ,List.replicate_zero,List.cons_append,List.nil_append]
 have hR:=Tryz.results80
 obtain⟨D,hD⟩:∃D,D=dgs s.data.toList:=⟨_,rfl⟩
 have hDl:D.length≤s.size:=by rw[hD];exact dgs_len _
 have hsz:(bt D).size=D.length:=by show (List.toArray D).size=_;simp
 have hA:=spA1_at (s:=s)
 rw[←hD] at hA
 simp (maxSteps:=2000000) only[↓awA,awB,evA,envE,ofV,putE,listH,setRow,spl,oneP,guardB,frzA,mapO,allSc,closeA,shiftA,shiftR,flatA,flat0,scA,Row.len,fillW,rep,chunks,closed1,Value.oneCell',Nat.reduceAdd,reduceIte,reduceCtorEq,Nat.reduceLT,Nat.reduceLeDiff,Nat.reduceEqDiff,Nat.reduceSub,Nat.reduceMul,frz1,frzR,eq_self,and_self,tys,  hA,hsz]
 refine aw_loop (fun i:Nat=>[.sc (.string s),.dead,.dead,.sc (.string (bt D)),.dead,.dead,.dead,.dead,.sc (.int .i64 (D.length:Int)),.sc (.int .i64 (i:Int))]++deads 24) (fun _=>[])
  (fun i=>i≤D.length∧(D.take i).all isD=true) (fun i=>D.length - i) 0 ?_ ⟨Nat.zero_le _,rfl⟩ ?_ (fun _ _=>by rw[show spA1.pins=0 from rfl];trivial)
 · simp[Weak,weakL,weakR,weakV,nilV,nilR,okA,listH,deads,pinR,isVarB,pin_pins]
 rintro i ⟨hi,hall⟩
 simp only[deads,List.replicate_succ,List.replicate_zero,List.cons_append,List.nil_append]
 unfold wrB
 rw[←hD]
 by_cases hlt:i<D.length
 · obtain⟨x,hx⟩:∃x,D[i]? =some x:=⟨_,List.getElem?_eq_getElem hlt⟩
   have e2:byteAt (bt D) i=(x.toNat:Int):=byteAt_some (by rw[list_bt];exact hx)
   have hw:=wr_lt hlt (by omega)
   have hxd:=isD_no (c:=x)
   have hno:isD x=false→D.all isD=false:=fun h=>by
    rw[List.all_eq_false]
    exact⟨x,List.mem_of_getElem? hx,by rw[h];simp⟩
   cases c1:decide ((x.toNat:Int)<48)
   · cases c2:decide ((x.toNat:Int)>57)
     · rw[c1,c2] at hxd
       simp (maxSteps:=2000000) only[↓awA,awB,evA,envE,ofV,putE,listH,setRow,spl,oneP,guardB,frzA,mapO,allSc,closeA,shiftA,shiftR,flatA,flat0,scA,Row.len,fillW,rep,chunks,closed1,Value.oneCell',Nat.reduceAdd,reduceIte,reduceCtorEq,Nat.reduceLT,Nat.reduceLeDiff,Nat.reduceEqDiff,Nat.reduceSub,Nat.reduceMul,frz1,frzR,eq_self,and_self,tys,  hlt,hsz,e2,c1,c2]
       refine loopQ_next (i+1) ?_ ⟨hlt, ?_⟩ (by omega)
       · simp[Weak,weakL,weakR,weakV,nilV,nilR,okA,listH,deads,pinR,isVarB,pin_pins,  hw]
       · rw[take_at hx,List.all_append,hall,List.all_cons,hxd]
         rfl
     · rw[c1,c2] at hxd
       rw[hno hxd,Bool.false_and]
       simp (maxSteps:=2000000) only[↓awA,awB,evA,envE,ofV,putE,listH,setRow,spl,oneP,guardB,frzA,mapO,allSc,closeA,shiftA,shiftR,flatA,flat0,scA,Row.len,fillW,rep,chunks,closed1,Value.oneCell',Nat.reduceAdd,reduceIte,reduceCtorEq,Nat.reduceLT,Nat.reduceLeDiff,Nat.reduceEqDiff,Nat.reduceSub,Nat.reduceMul,frz1,frzR,eq_self,and_self,tys,  hlt,hsz,e2,c1,c2,hR]
   · rw[c1] at hxd
     rw[hno hxd,Bool.false_and]
     simp (maxSteps:=2000000) only[↓awA,awB,evA,envE,ofV,putE,listH,setRow,spl,oneP,guardB,frzA,mapO,allSc,closeA,shiftA,shiftR,flatA,flat0,scA,Row.len,fillW,rep,chunks,closed1,Value.oneCell',Nat.reduceAdd,reduceIte,reduceCtorEq,Nat.reduceLT,Nat.reduceLeDiff,Nat.reduceEqDiff,Nat.reduceSub,Nat.reduceMul,frz1,frzR,eq_self,and_self,tys,  hlt,hsz,e2,c1,hR]
 · have hall2:D.all isD=true:=by
    rw[List.take_of_length_le (by omega)] at hall
    exact hall
   rw[hall2,Bool.true_and]
   have hs48:decide (s=⟨#[48]⟩)=decide (s.data.toList=[48]):=by
    refine decide_eq_decide.2 ⟨fun h=>by rw[h],fun h=> ?_⟩
    rw[←bt_list s,h]
    rfl
   have hE:decide (bt D=⟨#[]⟩)=decide (D=[]):=by rw[isEmpty_dec,list_bt]
   cases c1:decide (s.data.toList=[48])
   · rw[Bool.false_or]
     cases hD0:decide (D=[])
     · obtain⟨c,r,hc⟩:=List.exists_cons_of_ne_nil (of_decide_eq_false hD0)
       rw[hD0] at hE
       have e2:byteAt (bt D) 0=(c.toNat:Int):=byteAt_some (by rw[list_bt,hc];rfl)
       have hz:Int.toNat 0=0:=rfl
       have hz2:(0:Int)≤0:=Int.le_refl 0
       have hpos:(0:Int)<D.length:=by rw[hc,List.length_cons];omega
       obtain⟨b,hb⟩:∃b,b=decide (c≠48):=⟨_,rfl⟩
       have h48:((c.toNat:Int) !=48)=b:=by
        rw[hb,Bool.eq_iff_iff,bne_iff_ne,decide_eq_true_eq]
        refine not_congr ⟨fun h=>UInt8.toNat_inj.1 (by show c.toNat=48;omega),fun h=>by rw[h];rfl⟩
       have hfin:(decide (D≠[]) && decide (D.head? ≠some 48))=b:=by
        rw[hb,hc,decide_eq_true (show c::r≠[] by simp),Bool.true_and,List.head?_cons]
        exact decide_eq_decide.2 (not_congr Option.some_inj)
       rw[hfin]
       simp (maxSteps:=2000000) only[↓awA,awB,evA,envE,ofV,putE,listH,setRow,spl,oneP,guardB,frzA,mapO,allSc,closeA,shiftA,shiftR,flatA,flat0,scA,Row.len,fillW,rep,chunks,closed1,Value.oneCell',Nat.reduceAdd,reduceIte,reduceCtorEq,Nat.reduceLT,Nat.reduceLeDiff,Nat.reduceEqDiff,Nat.reduceSub,Nat.reduceMul,frz1,frzR,eq_self,and_self,tys,  hlt,hs48,c1,hE,hsz,e2,hz,hz2,hpos,h48,hR]
     · rw[hD0] at hE
       have hfin:(decide (D≠[]) && decide (D.head? ≠some 48))=false:=by
        rw[of_decide_eq_true hD0]
        rfl
       rw[hfin]
       simp (maxSteps:=2000000) only[↓awA,awB,evA,envE,ofV,putE,listH,setRow,spl,oneP,guardB,frzA,mapO,allSc,closeA,shiftA,shiftR,flatA,flat0,scA,Row.len,fillW,rep,chunks,closed1,Value.oneCell',Nat.reduceAdd,reduceIte,reduceCtorEq,Nat.reduceLT,Nat.reduceLeDiff,Nat.reduceEqDiff,Nat.reduceSub,Nat.reduceMul,frz1,frzR,eq_self,and_self,tys,  hlt,hs48,c1,hE,hR]
   · simp (maxSteps:=2000000) only[↓awA,awB,evA,envE,ofV,putE,listH,setRow,spl,oneP,guardB,frzA,mapO,allSc,closeA,shiftA,shiftR,flatA,flat0,scA,Row.len,fillW,rep,chunks,closed1,Value.oneCell',Nat.reduceAdd,reduceIte,reduceCtorEq,Nat.reduceLT,Nat.reduceLeDiff,Nat.reduceEqDiff,Nat.reduceSub,Nat.reduceMul,frz1,frzR,eq_self,and_self,tys,  hlt,hs48,c1,hR]
def ErrR (w:World):Prop:=∃b,w.cell? ⟨1,0,none⟩=some (.iface 166 (.pointer (some b)))
theorem ErrR.fr {w w':World} (h:ErrR w) (f:Fr (fun _=>False) w w'):ErrR w':=by
 obtain⟨b,hb⟩:=h
 exact⟨b,cell_fr hb f⟩
end Go.Proofs.YtpjodoipceddpaaGreatDoor.Aw
namespace Go.Proofs.YtpjodoipceddpaaGreatDoor.Aw
open Go.RowKit Go.Lib Rc Go.Extern.Stop Go.Stop Go.Extern
set_option maxHeartbeats 8000000
set_option maxRecDepth 100000
theorem isTypeOf (v:Value) (w:World):(Extern.ReflectliteType.typeOf #[.iface 166 v]).run Tryz.prog w=.ok (.iface 146 (.agg #[.pointer (some ⟨9,166,none⟩)])) w:=by kernel_rfl
def cmpF :TypeId→Sem Value:=fun t=>do Extern.Rtype.noPackHeld "Comparable" t;pure (.bool (←typeInfo t).comparable)
theorem isComparable (w:World):((Extern.ReflectliteType.method cmpF) #[.agg #[.pointer (some ⟨9,166,none⟩)]]).run Tryz.prog w=.ok (.bool true) w:=by kernel_rfl
theorem isMethodComparable (v:Value) (w:World):(Go.method 301 146 v "Comparable").run Tryz.prog w=.ok (149,v) w:=by kernel_rfl
theorem isComp :(Tryz.prog.info? 166).map (·.comparable)=some true:=by kernel_rfl
theorem isSize :(Tryz.prog.info? 168).map (·.size)=some 1:=by kernel_rfl
theorem noIsW (v:Value) (xT:TypeId) (w:World):(Instr.typeAssert (.iface 142 v) xT 148 true).run Tryz.prog w=.ok (.tuple #[.nilIface,.bool false]) w:=run_typeAssert_lacksB Tryz.underlying148 (by kernel_rfl) (by kernel_rfl) v xT w
theorem hasUnwrapW (v:Value) (xT:TypeId) (w:World):(Instr.typeAssert (.iface 142 v) xT 151 true).run Tryz.prog w=.ok (.tuple #[.iface 142 v,.bool true]) w:=run_typeAssert_hasB Tryz.underlying151 (by kernel_rfl) v xT w
theorem methodUnwrap (v:Value) (w:World):(Go.method 301 142 v "Unwrap").run Tryz.prog w=.ok (145,v) w:=by kernel_rfl
theorem is_nil (b:Addr) (w:World):Calls Tryz.prog 82 #[.nilIface,.iface 166 (.pointer (some b))] w fun e w'=>e=.returned (.bool false)∧w'=w:=by
 have hn:=run_eql_iface_nil_left (P:=Tryz.prog) w 166 (.pointer (some b)) Tryz.underlying67
 go_enter Tryz.func82,Tryz.ntmps82
 go_wp2
 go_ret
 exact⟨rfl,rfl⟩
theorem is_num (N:Nat) (u1 u2:Value) (b:Addr) (w:World) (hN:w.heap[N]? =some (.cells #[u1,u2,.iface 166 (.pointer (some b))] 163 (0,0))):
 Calls Tryz.prog 82 #[.iface 142 (.pointer (some ⟨N,0,none⟩)),.iface 166 (.pointer (some b))] w fun e w'=>e=.returned (.bool true)∧w'=w:=by
 have h1:w.cell? ⟨N,2,none⟩=some (.iface 166 (.pointer (some b))):=by
  rw[cell_of_row w N 2 _ _ (0,0) hN]
  rfl
 obtain⟨i,hi,hcmp⟩:=Option.map_eq_some_iff.1 isComp
 obtain⟨j,hj,hjs⟩:=Option.map_eq_some_iff.1 isSize
 have h8:= @run_callFunc_extern Tryz.prog 99 _ Extern.ReflectliteType.typeOf Tryz.func99 (by kernel_rfl) (by kernel_rfl) (by kernel_rfl) (by kernel_rfl)
 have h32:= @run_callFunc_extern Tryz.prog 149 _ (Extern.ReflectliteType.method cmpF) Tryz.func149 (by kernel_rfl) (by kernel_rfl) (by kernel_rfl) (by kernel_rfl)
 have tT:=isTypeOf
 have cT:=isComparable
 have mR:=isMethodComparable
 have nW:=noIsW
 have uW:=hasUnwrapW
 have mU:=methodUnwrap
 have heq:=run_eql_iface_ptr_same (P:=Tryz.prog) w b Tryz.underlying67 Tryz.underlying166 hi hcmp hj
 have hty:=run_eql_iface_types (P:=Tryz.prog) 142 166 (.pointer (some ⟨N,0,none⟩)) (.pointer (some b)) Tryz.underlying67 (by decide) w
 go_enter Tryz.func82,Tryz.ntmps82
 go_wp2
 refine wp_loop_rounds 2 ?_
 rw[rounds_succ]
 go_wp2
 rw[rounds_succ]
 go_wp2
 go_ret
 exact⟨rfl,rfl⟩
end Go.Proofs.YtpjodoipceddpaaGreatDoor.Aw
