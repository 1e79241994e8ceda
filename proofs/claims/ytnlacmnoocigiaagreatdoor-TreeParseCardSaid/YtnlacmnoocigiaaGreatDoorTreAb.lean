/- tree: attributes in order: the sort, by the library's contract; clones; twice. -/
import Derived.Test.YtnlacmnoocigiaaGreatDoorTrePq
import Derived.Test.YtnlacmnoocigiaaGreatDoorShSort
import Derived.Test.YtnlacmnoocigiaaGreatDoorBaseSt
import Derived.Test.YtnlacmnoocigiaaGreatDoorTokHi
import Derived.Shelf.SlSortCmp.NoneTotal
import Derived.Sort.Walk0
import Derived.BigQuiet
namespace Go.Proofs.YtnlacmnoocigiaaGreatDoor
open Go.RowKit Go.Lib
attribute [local go_sem ↓] Go.wp_at_zero Go.wp_at_succ
set_option maxHeartbeats 1000000 in
theorem zpv (x:ByteArray)(w:World):Calls Tryz.prog 120 #[.string x] w fun e w'=>e=.returned (.bool false)∧w'=w:=by go_enter Tryz.func120,Tryz.ntmps120;go_wp2;go_ret;exact⟨by simp,rfl⟩
def cmpS (a b:ByteArray):Int:=if a.data.toList<b.data.toList then -1 else if b.data.toList<a.data.toList then 1 else 0
theorem zwj (a b:ByteArray):Op.bytesLess a.toList b.toList=decide (a.data.toList<b.data.toList):=by rw[bytesLess_eq,Lib.toList_data,Lib.toList_data]
set_option maxHeartbeats 1000000 in
theorem zis (a b:ByteArray)(w:World):Calls Tryz.prog 82 #[.string a,.string b] w fun e w'=>e=.returned (.int .i64 (cmpS a b))∧w'=w:=by
 unfold cmpS;have HN:=fun x W=>zpv x W;have e1:=zwj a b;by_cases h1:a.data.toList<b.data.toList
 · rw[decide_eq_true h1] at e1;rw[if_pos h1];clear h1;go_enter Tryz.func82,Tryz.ntmps82;go_wp2_with (go_at_call 120;refine(HN _ _).mono ?_;rintro e w' ⟨rfl,rfl⟩);go_ret;exact⟨rfl,rfl⟩
 · rw[decide_eq_false h1] at e1;rw[if_neg h1];by_cases h2:b.data.toList<a.data.toList
   · have e2:(a.toList==b.toList)=false:=by
      rw[Lib.toList_data,Lib.toList_data];have:a.data.toList≠b.data.toList:=fun e=>by rw[e] at h2;exact z2o _ h2
      simpa using this
     rw[if_pos h2];clear h1 h2;go_enter Tryz.func82,Tryz.ntmps82;go_wp2_with (go_at_call 120;refine(HN _ _).mono ?_;rintro e w' ⟨rfl,rfl⟩);go_ret;exact⟨rfl,rfl⟩
   · have e2:(a.toList==b.toList)=true:=by
      rw[Lib.toList_data,Lib.toList_data];rcases za9 a.data.toList b.data.toList with h|h|h
      · exact absurd h h1
      · simpa using h
      · exact absurd h h2
     rw[if_neg h2];clear h1 h2;go_enter Tryz.func82,Tryz.ntmps82;go_wp2_with (go_at_call 120;refine(HN _ _).mono ?_;rintro e w' ⟨rfl,rfl⟩);go_ret;exact⟨rfl,rfl⟩
def cmpA (x y:z0b):Int:=cmpS x.1 y.1
open Go.Sort in
set_option maxHeartbeats 1000000 in
theorem zgu (x y:z0b)(W:World):Calls Tryz.prog 50 #[.agg (pairC.cells x).toArray,.agg (pairC.cells y).toArray] W fun e w'=>e=.returned (.int .i64 (cmpA x y))∧∃q os',w'=grow (W.drewN q) os':=by have hcon:=fun W'=>zis x.1 y.1 W';show Calls Tryz.prog 50 #[.agg #[.string x.1,.string x.2],.agg #[.string y.1,.string y.2]] W _;unfold cmpA;generalize cmpS x.1 y.1=r at hcon⊢;go_enter Tryz.func50,Tryz.ntmps50;go_wp2_with (go_at_call 82;refine(hcon _).mono ?_;rintro e w' ⟨rfl,rfl⟩);go_ret;exact⟨rfl,0,_,by rw[alloc_eq_grow,alloc_eq_grow,grow_grow];rfl⟩
open Go.Sort in
theorem z8z (x y:z0b):ltOf cmpA x y=decide (nmA x<nmA y):=by
 unfold ltOf cmpA cmpS nmA;by_cases h1:x.1.data.toList<y.1.data.toList
 · rw[if_pos h1];simp[h1]
 · rw[if_neg h1];by_cases h2:y.1.data.toList<x.1.data.toList
   · rw[if_pos h2];simp[h1]
   · rw[if_neg h2];simp[h1]
open Go.Sort in
theorem swoA :SWO (ltOf cmpA) where
 irrefl x:=by rw[z8z];exact decide_eq_false (z2o _)
 trans x y z h1 h2:=by rw[z8z] at*;simp only[decide_eq_true_eq] at*;exact z35 h1 h2
 ntrans x y z h1 h2:=by
  rw[z8z] at*;simp only[decide_eq_false_iff_not] at*;intro h;rcases za9 (nmA x) (nmA y) with g|g|g
  · exact h1 g
  · rw[g] at h;exact h2 h
  · exact h2 (z35 g h)
open Go.Sort in
theorem zgv (L:List z0b)(t:Nat)(h:t<L.length*2):(flatK pairC.cells 2 L.toArray)[t]? =(pairC.flat L)[t]? :=by
 have hs:(flatK pairC.cells 2 L.toArray).size=L.length*2:=by simp
 have hq:t / 2<L.length:=by omega
 have hr:t % 2<pairC.size:=Nat.mod_lt _ (by decide);have e:=pairC.flat_at L (t / 2) (t % 2) hq hr;rw[show pairC.size=2 from rfl,show t / 2*2+t % 2=t from by omega] at e;rw[e,getElem?_pos _ t (by rw[hs];exact h)];have g:=get_flatK pairC.cells 2 L.toArray t (by simpa using h);rw[getElem!_pos _ t (by rw[hs];exact h)] at g;rw[g,getElem!_pos L.toArray (t / 2) (by simpa using hq)];have hl:t % 2<(pairC.cells L[t / 2]).length:=by rw[pairC.len];exact hr
 rw[List.getElem?_eq_getElem hl];simp only[List.getElem_toArray];exact congrArg some (getElem!_pos (pairC.cells L[t / 2]) (t % 2) hl)
open Go.Sort in
theorem zpw {w:World}{E:TypeId}{g off n cap:Nat}{L:List z0b}(h:Own pairC w E (.slice (some ⟨g,off,none⟩) n cap) (some g) L):HoldsK pairC.cells 2 w g off L.toArray:=by
 obtain⟨cur,hg,h0,rfl,hl,hm,hf,hc⟩:=h.raw;intro t ht;have ht2:t<L.length*2:=by simpa using ht
 rw[show pairC.size=2 from rfl] at hc;refine⟨?_,frozen_of_row w g _ _ _ hg⟩;rw[cell_of_row w g (off+t) cur E (0,0) hg,hc t ht2,←zgv L t ht2,getElem?_pos _ t ht,getElem!_pos _ t ht];rfl
open Go.Sort in
theorem zm4 {w:World}{E:TypeId}{g off n cap m:Nat}{L:List z0b}{d:Array z0b}{os:Array Obj}(h:Own pairC w E (.slice (some ⟨g,off,none⟩) n cap) (some g) L)(hd:d.size=L.length):
 Own pairC (sortWorldK pairC.cells 2 w g off m d os) E (.slice (some ⟨g,off,none⟩) n cap) (some g) d.toList∧Fr (fun k=>k=g) w (sortWorldK pairC.cells 2 w g off m d os):=by
 obtain⟨cur,hg,h0,rfl,hl,hm,hf,hc⟩:=h.raw;have hlt:g<w.heap.size:=(Array.getElem?_eq_some_iff.1 hg).1;rw[show pairC.size=2 from rfl] at hc hf;have hF:(flatK pairC.cells 2 d).size=L.length*2:=by simp[hd]
 have hheap:(sortWorldK pairC.cells 2 w g off m d os).heap=w.heap.modify g (onCells (putCells id off (flatK pairC.cells 2 d)))++os:=rfl;have hblk:(sortWorldK pairC.cells 2 w g off m d os).heap[g]? =some (.cells (putCells id off (flatK pairC.cells 2 d) cur) E (0,0)):=by rw[hheap,Array.getElem?_append_left (by simpa using hlt),Array.getElem?_modify,if_pos rfl,hg];rfl
 constructor
 · have hlen:d.toList.length=L.length:=by simpa using hd
   rw[←hlen];refine Own.of_raw hblk h0 (by rw[hlen];exact hl) hm (by simpa [putCells,show pairC.size=2 from rfl] using hf) fun t ht=> ?_;rw[hlen,show pairC.size=2 from rfl] at ht;have hle:L.length*2≤cap*2:=Nat.mul_le_mul_right _ hl;have hin:off+t<cur.size:=by omega
   have hk:=zgv d.toList t (by rw[hlen];exact ht);rw[←hk];unfold putCells;rw[Array.getElem?_mapIdx,getElem?_pos cur (off+t) hin,Option.map_some,if_pos (by rw[hF];omega),show off+t - off=t from by omega,getElem!_pos _ t (by rw[hF];exact ht),getElem?_pos _ t (by simpa [hd] using ht)];rfl
 · refine⟨rfl,rfl,rfl,by rw[hheap];simp,fun k hk hn=> ?_⟩;rw[hheap,Array.getElem?_append_left (by simpa using hk),Array.getElem?_modify,if_neg (fun e=>hn e.symm)]
open Go.Sort in
theorem ztj (E:TypeId)(A:Option Addr)(n cap:Nat)(o:Option Nat)(L:List z0b)(w:World)(h:Own pairC w E (.slice A n cap) o L)(hn:L.length≤1000000):
 Calls Tryz.prog 49 #[.slice A n cap,.func (.func 50) #[] #[]] w fun e w'=>
  e=.returned (.tuple #[])∧∃L',L'.Perm L∧L'.Pairwise (fun a b=>¬nmA b<nmA a)∧Own pairC w' E (.slice A n cap) o L'∧Fr (fun k=>o=some k) w w':=by
 by_cases h0:L=[]
 · subst h0;obtain⟨A',cap',hv, -, -⟩:=h.form;simp only[Value.slice.injEq,List.length_nil] at hv;obtain⟨rfl,rfl,rfl⟩:=hv;have hc:=AnyF.slices_SortFunc_none {Tryz.sortAttr with} A cap (.func (.func 50) #[] #[]) w;exact hc.mono fun e w' ⟨he,hw⟩=>⟨he,[],.refl _,.nil,hw ▸ h,hw ▸ Fr.refl _ _⟩
 · have hsome:∃g off,A=some ⟨g,off,none⟩∧o=some g:=by
    rcases h with ⟨A',h1,h2,h3⟩|⟨g,off,cap',cur,h1,h2, -⟩
    · exact absurd h3 h0
    · simp only[Value.slice.injEq] at h1;exact⟨g,off,h1.1,h2⟩
   obtain⟨g,off,rfl,rfl⟩:=hsome;obtain⟨A',cap',hv, -, -⟩:=h.form;simp only[Value.slice.injEq] at hv;obtain⟨-,rfl,rfl⟩:=hv;have eg:∀args w,(callFunc 50 args).run Tryz.prog w=.ok (.enter 50 args) w:=enters_of Tryz.func50 (by kernel_rfl) rfl;have hc:=AnyQ.slices_SortFunc Tryz.sortAttr 2 Tryz.isAgg47 Tryz.sizeOf47 pairC.cells pairC.len pairC.one cmpA swoA 50 #[] g off cap L.toArray w eg (fun _ _ _ _ x y=>zgu x y _) (zpw h) (h.lt g rfl) (by simp only[List.size_toArray];omega);simp only[List.size_toArray] at hc;refine hc.mono fun e w' ⟨he,d,m,os,hp,hs,hw⟩=>⟨he,d.toList, ?_, ?_, ?_⟩
   · have h1:=hp.2.2;have hsz:d.size=L.length:=by simpa using hp.1
     rw[show L.toArray.extract 0 L.length=L.toArray from by rw[←List.size_toArray];exact Array.extract_size,←hsz,Array.extract_size] at h1;simpa using h1
   · rw[List.pairwise_iff_getElem];intro i j hi hj hij;have hsz:d.size=L.length:=by simpa using hp.1
     rw[Array.length_toList] at hi hj;have:=hs i j (Nat.zero_le _) hij (by rw[←hsz];exact hj);rw[z8z,getElem!_pos d i hi,getElem!_pos d j hj] at this;simpa using this
   · have hsz:d.size=L.length:=by simpa using hp.1
     obtain⟨g1,g2⟩:=zm4 (m:=m) (os:=os) h hsz;subst hw;exact⟨g1,g2.mono fun k hk=>by rw[hk]⟩
end Go.Proofs.YtnlacmnoocigiaaGreatDoor
namespace Go.Proofs.YtnlacmnoocigiaaGreatDoor
open Go.RowKit Go.Lib
attribute [local go_sem ↓] Go.wp_at_zero Go.wp_at_succ
theorem Rd.lenT {α:Type}{C:Cod α}{w:World}{S:Nat→Prop}{A:Option Addr}{m c:Nat}{l:List α}(h:Rd C w S (.slice A m c) l):l.length=m∧m≤9223372036854775807:=by obtain⟨A',cap,hv,h1,h2, -⟩:=h;simp only[Value.slice.injEq] at hv;obtain⟨-,rfl, -⟩:=hv;exact⟨rfl,by simp only[maxLen] at h2;omega⟩
def zxp (w:World)(l:List z0b)(e:Ending)(w':World):Prop:=∃A cap o,e=.returned (.slice A l.length cap)∧Own pairC w' 47 (.slice A l.length cap) o l∧Fr (fun _=>False) w w'∧(∀k,o=some k→w.heap.size≤k)
set_option maxHeartbeats 1000000 in
theorem z90 (S:Nat→Prop)(v:Value)(l:List z0b)(w:World)(h:Rd pairC w S v l)(hS:∀k,S k→k<w.heap.size)(hl:l.length≤1000000):
 Calls Tryz.prog 48 #[v] w (zxp w l):=by
 have H:=hide h;have HS:=hide hS;obtain⟨A,cap,rfl,hlc,hcm,hn, -⟩:=h;clear hS;have hen:=fun(W:World) (A:Option Addr) (n c:Nat)=>Lib.run_eql_slice_nil (P:=Tryz.prog) W 43 47 A n c 0 0 Tryz.underlying43
 cases A with
 |none=>obtain rfl:=hn rfl;have hl0:l=[]:=List.eq_nil_of_length_eq_zero (by omega);subst hl0;go_enter Tryz.func48,Tryz.ntmps48;go_wp2;go_ret;exact⟨none,0,none,rfl,Own.nil_ _ _ _ none,Fr.refl _ _,fun k hk=>by cases hk⟩
 |some ad=>
  clear hn;go_enter Tryz.func48,Tryz.ntmps48;go_wp2_with (at_builtin;refine z0d rfl rfl zp8 (by rfl) (by rfl) (Own.nil_ pairC _ _ _) (H.out.fr (Fr.alloc (Fr.refl (fun _=>False) _) _) (fun k hk=>⟨HS.out k hk,fun h=>h⟩)) (by(try simp);omega) ?_;intro A' cap' w1 o' hown hfr hnew);go_ret;simp only[List.length_nil,Nat.zero_add,List.nil_append] at hown⊢;refine⟨A',cap',o',rfl,hown,(Fr.alloc (Fr.refl _ _) _).trans (hfr.mono fun k hk=>by cases hk),fun k hk=> ?_⟩;rcases hnew k hk with h1|h1
  · cases h1
  · have:=h1.1;simp at this;omega
def adjA :List z0b→Bool
 |x::y::l=>decide (nmA x=nmA y)||adjA (y::l)
 |_=>false
theorem zar :∀(l:List z0b),adjA l=true↔∃i,∃h:i+1<l.length,nmA l[i]=nmA l[i+1]
 |[]=>by simp[adjA]
 |[x]=>by simp[adjA]
 |x::y::l=>by
  rw[adjA,Bool.or_eq_true,decide_eq_true_eq,zar (y::l)];constructor
  · rintro(h|⟨i,h,e⟩)
    · exact⟨0,by simp,h⟩
    · exact⟨i+1,by simp only[List.length_cons] at h⊢;omega,e⟩
  · rintro⟨i,h,e⟩
    cases i with
    |zero=>exact .inl e
    |succ i=>exact .inr ⟨i,by simp only[List.length_cons] at h⊢;omega,e⟩
theorem z87 :∀{l:List z0b},l.Pairwise (fun a b=>¬nmA b<nmA a)→adjA l=false→l.Pairwise ltA
 |[],_,_=>.nil
 |[x],_,_=>by simp
 |x::y::l,h,ha=>by
  rw[adjA,Bool.or_eq_false_iff,decide_eq_false_iff_not] at ha;rw[List.pairwise_cons] at h;have ih:=z87 h.2 ha.2
  have hxy:ltA x y:=by
   rcases za9 (nmA x) (nmA y) with g|g|g
   · exact g
   · exact absurd g ha.1
   · exact absurd g (h.1 y (by simp))
  rw[List.pairwise_cons];refine⟨fun z hz=> ?_,ih⟩;rcases List.mem_cons.1 hz with rfl|hz
  · exact hxy
  · exact z35 hxy ((List.pairwise_cons.1 ih).1 z hz)
theorem ztk {l:List z0b}(h:adjA l=true):¬(l.map nmA).Nodup:=by obtain⟨i,hi,e⟩:=(zar l).1 h;intro hn;unfold List.Nodup at hn;rw[List.pairwise_map,List.pairwise_iff_getElem] at hn;exact hn i (i+1) (by omega) hi (by omega) e
theorem zgw {l m:List z0b}(hp:m.Perm l)(hs:m.Pairwise (fun a b=>¬nmA b<nmA a)):adjA m=decide (dupA l)∧(¬dupA l→m=z5f l):=by
 cases ha:adjA m with
 |true=> 
  have:=zxr hp (ztk ha);exact⟨(decide_eq_true this).symm,fun h=>absurd this h⟩
 |false=>obtain⟨h1,h2⟩:=zki (z87 hs ha) hp;exact⟨(decide_eq_false h2).symm,fun _=>h1⟩
theorem ztl {a b:ByteArray}(h:a.data.toList=b.data.toList):(a.toList==b.toList)=true:=by rw[Lib.toList_data,Lib.toList_data];simpa using h
theorem zkf {a b:ByteArray}(h:¬a.data.toList=b.data.toList):(a.toList==b.toList)=false:=by rw[Lib.toList_data,Lib.toList_data];simpa using h
set_option maxHeartbeats 2000000 in
theorem z3w (S:Nat→Prop)(A:Option Addr)(n c:Nat)(L:List z0b)(w:World)(hr:Rd pairC w S (.slice A n c) L)(hS:∀k,S k→k<w.heap.size):
 Calls Tryz.prog 51 #[.slice A n c] w fun e w'=>e=.returned (.bool (adjA L))∧Fr (fun _=>False) w w':=by
 obtain⟨hL,h63⟩:=hr.lenT;have HR:=hide hr;have HS:=hide hS;have HL:=hide hL;obtain⟨r,hres⟩:∃r,adjA L=r:=⟨_,rfl⟩;rw[hres];have HRES:=hide hres;clear hr hS hL hres;go_enter Tryz.func51,Tryz.ntmps51;go_wp2_with fail;go_loopw [3] (fun i wr=>∃k:Nat,1≤k∧i=.int .i64 k∧k≤n+1∧Hid (Fr (fun _=>False) w wr)∧Hid (∀i,∀h:i+1<L.length,i+1<k→nmA L[i]≠nmA L[i+1])) (fun i _=>n+1 - (Go.RowKit.intOf i).toNat)
 case atStart=>exact⟨1,by omega,rfl,by omega,hide (Fr.refl _ _),hide (fun i h h1=>absurd h1 (by omega))⟩
 case round=>
  obtain⟨k,hk1,rfl,hkn,hfr,hno⟩:=hrel;by_cases hlt:k<n
  · have hki:(k:Int)<n:=by omega
    have hka:k<L.length:=by rw[HL.out];exact hlt
    have hkb:k - 1<L.length:=by omega
    have HRW:=HR.out.fr hfr.out (fun k hk=>⟨HS.out k hk,fun h=>h⟩);obtain⟨g,off,cp,hv, -, -,hg,hc⟩:=HRW.at_ hka;obtain⟨g',off',cp',hv', -, -,hg',hc'⟩:=HRW.at_ hkb;simp only[Value.slice.injEq] at hv hv';obtain⟨rfl, -,rfl⟩:=hv;simp only[Option.some.injEq,Addr.mk.injEq] at hv';obtain⟨⟨rfl,rfl, -⟩, -, -⟩:=hv';have q0:=hc 0 (by decide);have p0:=hc' 0 (by decide);have hstep:Hid (∀i,∀h:i+1<L.length,i+1<k+1→i+1≠k→nmA L[i]≠nmA L[i+1]):=hide (fun i h h1 h2=>hno.out i h (by omega));have hx:Hid (∀i,∀h:i+1<L.length,i+1=k→(nmA L[i]=nmA L[i+1]↔nmA (L[k - 1]'hkb)=nmA L[k])):=hide (fun i h h1=>by subst h1;exact Iff.rfl)
    have hy:Hid (nmA (L[k - 1]'hkb)=nmA L[k]→adjA L=true):=hide (fun e=>(zar L).2 ⟨k - 1,by omega,by
     have e2:L[k - 1+1]'(by omega)=L[k]:=by congr 1;omega
     rw[e2];exact e⟩)
    generalize L[k]=x at*;generalize (L[k - 1]'hkb)=y at*;obtain⟨xn,xv⟩:=x;obtain⟨yn,yv⟩:=y;simp only[pairC,Nat.add_zero,List.getElem?_cons_zero] at q0 p0;have hw1:IntKind.i64.wrap ((k:Int) - 1)=((k - 1:Nat):Int):=by rw[IntWalk.i64_in _ (by omega)];omega
    have b1:((k - 1:Nat):Int)<n:=by omega
    clear hc hc' hg hg' HRW hka hno;by_cases he:xn.data.toList=yn.data.toList
    · have heq:=ztl he.symm;obtain rfl:r=true:=by rw[←HRES.out];exact hy.out he.symm
      clear he hx hy hstep;go_wp2_with fail;go_quiet (fail);go_wp2_with fail;go_ret;exact⟨rfl,hfr.out.drewN _⟩
    · have heq:=zkf (fun e=>he e.symm)
      have hno2:Hid (∀i,∀h:i+1<L.length,i+1<k+1→nmA L[i]≠nmA L[i+1]):=hide (fun i h h1=>by
       by_cases h2:i+1=k
       · intro e;exact he ((hx.out i h h2).1 e).symm
       · exact hstep.out i h h1 h2)
      clear he hx hy hstep;go_wp2_with fail;go_quiet (fail);go_wp2_with fail;go_roundw
      case rel=>exact⟨k+1,by omega,by go_num,by omega,hide (hfr.out.drewN _),hno2⟩
      case measure=>simp[Go.RowKit.intOf];omega
  · have hki:¬(k:Int)<n:=by omega
    obtain rfl:r=false:=by
     rw[←HRES.out]
     cases hq:adjA L with
     |false=>rfl
     |true=>obtain⟨i,h,e⟩:=(zar L).1 hq;exact absurd e (hno.out i h (by rw[HL.out] at h;omega))
    go_wp2_with fail
    go_ret;exact⟨rfl,hfr.out⟩
end Go.Proofs.YtnlacmnoocigiaaGreatDoor
