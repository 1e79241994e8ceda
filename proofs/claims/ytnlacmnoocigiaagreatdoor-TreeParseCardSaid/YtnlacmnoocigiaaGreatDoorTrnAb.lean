/- tree: the law's few. -/
import Derived.Test.YtnlacmnoocigiaaGreatDoorTrlEf
import Derived.BigRegion
namespace Go.Proofs.YtnlacmnoocigiaaGreatDoor
open Go.RowKit Go.Lib
attribute [local go_sem ↓] Go.wp_at_zero Go.wp_at_succ
end Go.Proofs.YtnlacmnoocigiaaGreatDoor
namespace Go.Proofs.YtnlacmnoocigiaaGreatDoor
open Go.RowKit Go.Lib
attribute [local go_sem ↓] Go.wp_at_zero Go.wp_at_succ
attribute [local go_sem ↓] z5p
theorem zty :El Tryz.prog 77 80 2 32:=El.mk (.agg #[.string ⟨#[]⟩,.string ⟨#[]⟩]) Tryz.underlying77 (by kernel_rfl) rfl
theorem ztz :El Tryz.prog 23 79 7 88:=El.mk (.agg #[.string ⟨#[]⟩,.slice none 0 0,.string ⟨#[]⟩,.int .i64 0,.int .i64 0,.int .i64 0,.int .i64 0]) Tryz.underlying23 (by kernel_rfl) rfl
theorem zkw {α:Type}(C:Cod α)(x:α){W:World}{b:Nat}{E:TypeId}(h:W.heap[b]? =some (.cells (C.cells x).toArray E (0,0))):Rd C W (fun k=>k=b) (.slice (some ⟨b,0,none⟩) 1 1) [x]:=by refine⟨_,1,rfl,Nat.le_refl _,by simp[maxLen],fun h=>(by cases h),fun _=>⟨b,0,rfl,rfl,fun j u hu=> ?_⟩⟩;rw[cell_of_row _ _ _ _ _ _ h];rw[Nat.zero_add];simpa [Cod.flat] using hu
structure RefJ (Wy wr:World)(qy:Nat)(x:NodeV)(B:Option Addr)(d:Nat)(o:Option Nat)(l:List z0b):Prop where
 yb:wr.heap[qy]? =some (.cells #[.string x.name,.slice B l.length d,.string x.text,.int .i64 x.parent,.int .i64 x.first,.int .i64 x.next,.int .i64 x.at_] 79 (0,0))
 own:Own pairC wr 80 (.slice B l.length d) o l
 new:∀k,o=some k→Wy.heap.size≤k
 fr:Fr (fun k=>k=qy) Wy wr
theorem RefJ.step {Wy wr:World}{qy:Nat}{x:NodeV}{B:Option Addr}{d:Nat}{o:Option Nat}{l:List z0b}(h:RefJ Wy wr qy x B d o l)(hq:qy<Wy.heap.size)(a:z0b)(hl:l.length≤1000000000):
 ∃B' d' w6,(zgy #[77,77] 77 #[.slice B l.length d,.slice (some ⟨wr.heap.size,0,none⟩) 1 1]).run Tryz.prog ((wr.alloc (.cells #[.string a.1,.string a.2] 80)).drew)=.ok (.slice B' (l.length+1) d') w6∧
  w6.cell? ⟨qy,1,none⟩=some (.slice B l.length d)∧w6.frozen? ⟨qy,1,none⟩=false∧Hid (∃o',RefJ Wy (w6.setCell ⟨qy,1,none⟩ (.slice B' (l.length+1) d')) qy x B' d' o' (l++[a])):=by
 have f1:Fr (fun _=>False) wr (wr.alloc (.cells #[.string a.1,.string a.2] 80)).drew:=(Fr.alloc (Fr.refl _ _) _).drew;have hb:=heap_alloc_new wr (.cells #[.string a.1,.string a.2] 80);obtain⟨v,w6,o6,hr,h1,h2,h3⟩:=z0s (P:=Tryz.prog) (C:=pairC) (ty:=77) zty ((wr.alloc (.cells #[.string a.1,.string a.2] 80)).drew) (h.own.fr f1 (fun _ _ h=>h)) (zkw pairC a (E:=80) (show ((wr.alloc (.cells #[.string a.1,.string a.2] 80)).drew).heap[wr.heap.size]? =_ from hb)) (by simp;omega);obtain⟨B',d',hv, -, -⟩:=h1.form;rw[List.length_append] at hv;subst hv;have hqw:qy<wr.heap.size:=Nat.lt_of_lt_of_le hq h.fr.size;have hoq:¬o=some qy:=fun e=>by have:=h.new qy e;omega
 have hy6:w6.heap[qy]? =some (.cells #[.string x.name,.slice B l.length d,.string x.text,.int .i64 x.parent,.int .i64 x.first,.int .i64 x.next,.int .i64 x.at_] 79 (0,0)):=by rw[h2.block qy (Nat.lt_of_lt_of_le hqw f1.size) (fun e=>hoq e),f1.block qy hqw (fun h=>h)];exact h.yb
 have c1:=cell_of_row w6 qy 1 _ _ _ hy6;refine⟨B',d',w6,hr,by rw[c1];rfl,frozen_of_row w6 qy 1 _ _ hy6,hide ⟨o6, ?_, ?_, ?_, ?_⟩⟩
 · have:=heap_setCell_same w6 qy 1 _ _ (.slice B' (l.length+1) d') hy6;rw[List.length_append];exact this
 · have hn:¬o6=some qy:=fun e=>by
    rcases h3 qy e with g|g
    · exact hoq g
    · have:=f1.size;omega
   have:=h1.fr (Fr.set_b w6 qy 1 (.slice B' (l.length+1) d')) (fun k hk e=>hn (by rw[hk,e]));rw[List.length_append];exact this
 · intro k hk;rcases h3 k hk with g|g
   · exact h.new k g
   · have:=f1.size;have:=h.fr.size;omega
 · exact((h.fr.trans (f1.mono (fun _ h=>h.elim))).then_ h2 (fun k h4 h5=>by have:=h.new k h5;omega)).trans (Fr.set_b w6 qy 1 _)
def TrN (b:Nat)(N:List NodeM)(W:World)(A:Option Addr)(n c:Nat):Prop:=∃X S,NodesRd W S (.slice A n c) X∧(∀k,S k→b≤k∧k<W.heap.size)∧X.map (·.model)=N
theorem TrN.tr {b:Nat}{N:List NodeM}{W:World}{A:Option Addr}{n c:Nat}(h:TrN b N W A n c):Tr N W A n c:=by obtain⟨X,S,h1,h2,h3⟩:=h;exact⟨X,S,h1,fun k hk=>(h2 k hk).2,h3⟩
structure RefO (W0 wr:World)(qo:Nat)(B:Option Addr)(d:Nat)(o:Option Nat)(Y:List NodeX):Prop where
 ob:wr.heap[qo]? =some (.cells #[.slice B Y.length d] 25 (0,0))
 own:Own nodeC wr 79 (.slice B Y.length d) o (Y.map (·.v))
 ok:∀y∈Y,y.v.m=y.ats.length∧Own pairC wr 80 (.slice y.v.A y.v.m y.v.c) y.oa y.ats
 new:∀k,o=some k→W0.heap.size≤k
 newa:∀y∈Y,∀k,y.oa=some k→W0.heap.size≤k∧o≠some k
 fr:Fr (fun k=>k=qo) W0 wr
theorem RefO.push {W0 w wr2 w3:World}{qo:Nat}{B B':Option Addr}{d d':Nat}{o o':Option Nat}{Y:List NodeX}(h:RefO W0 w qo B d o Y)(hq:qo<W0.heap.size)(F2:Fr (fun k=>w.heap.size≤k) w wr2){ob:Obj}{y:NodeX}
 (hy:y.v.m=y.ats.length∧Own pairC wr2 80 (.slice y.v.A y.v.m y.v.c) y.oa y.ats) (hyn:∀k,y.oa=some k→w.heap.size≤k)
 (m3:Own nodeC w3 79 (.slice B' (Y.length+1) d') o' (Y.map (·.v)++[y.v])) (g3:Fr (fun k=>o=some k) (wr2.alloc ob) w3) (n3:∀k,o'=some k→o=some k∨((wr2.alloc ob).heap.size≤k∧k<w3.heap.size)):
 w3.cell? ⟨qo,0,none⟩=some (.slice B Y.length d)∧w3.frozen? ⟨qo,0,none⟩=false∧RefO W0 (w3.setCell ⟨qo,0,none⟩ (.slice B' (Y.length+1) d')) qo B' d' o' (Y++[y]):=by
 have s0:=h.fr.size;have s2:=F2.size;have s3:(wr2.alloc ob).heap.size=wr2.heap.size+1:=by simp
 have s4:=g3.size;have fa:Fr (fun _=>False) wr2 (wr2.alloc ob):=Fr.alloc (Fr.refl _ _) _;have hoq:¬o=some qo:=fun e=>by have:=h.new qo e;omega
 have hoq':¬o'=some qo:=fun e=>by
  rcases n3 qo e with g|g
  · exact hoq g
  · omega
 have hb3:w3.heap[qo]? =some (.cells #[.slice B Y.length d] 25 (0,0)):=by rw[g3.block qo (by omega) hoq,fa.block qo (by omega) (fun h=>h),F2.block qo (by omega) (by omega)];exact h.ob
 have c0:=cell_of_row w3 qo 0 _ _ _ hb3;have fs:=Fr.set_b w3 qo 0 (.slice B' (Y.length+1) d');have hlt:∀k,o=some k→k<w.heap.size:=fun k hk=>h.own.lt k hk;refine⟨by rw[c0];rfl,frozen_of_row w3 qo 0 _ _ hb3, ?_, ?_, ?_, ?_, ?_, ?_⟩
 · have:=heap_setCell_same w3 qo 0 _ _ (.slice B' (Y.length+1) d') hb3;rw[List.length_append];exact this
 · have:=m3.fr fs (fun k hk e=>hoq' (by rw[hk,e]));rw[List.length_append,List.map_append];exact this
 · intro z hz
   have key:z.v.m=z.ats.length∧Own pairC w3 80 (.slice z.v.A z.v.m z.v.c) z.oa z.ats∧¬z.oa=some qo:=by
    rcases List.mem_append.1 hz with hz|hz
    · obtain⟨a1,a2⟩:=h.ok z hz;exact⟨a1,((a2.fr F2 (fun k hk e=>by have:=a2.lt k hk;omega)).fr fa (fun _ _ h=>h)).fr g3 (fun k hk e=>(h.newa z hz k hk).2 e),fun e=>by have:=(h.newa z hz qo e).1;omega⟩
    · rw[List.mem_singleton] at hz;subst hz;exact⟨hy.1,(hy.2.fr fa (fun _ _ h=>h)).fr g3 (fun k hk e=>by have:=hyn k hk;have:=hlt k e;omega),fun e=>by have:=hyn qo e;omega⟩
   exact⟨key.1,key.2.1.fr fs (fun k hk e=>key.2.2 (by rw[hk,e]))⟩
 · intro k hk;rcases n3 k hk with g|g
   · exact h.new k g
   · omega
 · intro z hz k hk;rcases List.mem_append.1 hz with hz|hz
   · obtain⟨a1,a2⟩:=h.newa z hz k hk;refine⟨a1,fun e=> ?_⟩;rcases n3 k e with g|g
     · exact a2 g
     · have:=(h.ok z hz).2.lt k hk;omega
   · rw[List.mem_singleton] at hz;subst hz;refine⟨by have:=hyn k hk;omega,fun e=> ?_⟩;rcases n3 k e with g|g
     · have:=hyn k hk;have:=hlt k g;omega
     · have:=hy.2.lt k hk;omega
 · exact(((h.fr.then_ F2 (fun k h1 h2=>by omega)).trans (fa.mono (fun _ h=>h.elim))).then_ g3 (fun k h1 h2=>by have:=h.new k h2;omega)).trans fs
set_option maxRecDepth 100000 in
set_option maxHeartbeats 8000000 in
theorem zws {N:List NodeM}{A:Option Addr}{n c:Nat}(w:World)(h:Tr N w A n c)(hn:n≤1000000)(hat:∀x∈N,x.attrs.length≤1000000000):
 Calls Tryz.prog 9 #[.agg #[.slice A n c]] w fun e w'=>∃B d,e=.returned (.agg #[.slice B n d])∧Hid (TrN w.heap.size N w' B n d)∧Fr (fun _=>False) w w':=by
 have hlen:=h.len;obtain⟨X,S,hrd,hS,hX⟩:=h;have hXn:X.length=n:=by rw[←hlen,←hX,List.length_map]
 have fa:Fr (fun _=>False) w (w.alloc (.cells #[.slice A n c] 31)):=Fr.alloc (Fr.refl _ _) _;have hb0:=heap_alloc_new w (.cells #[.slice A n c] 31);have HRD:=hide (hrd);have HS:=hide hS;have HN:=hide hlen;have HX:=hide hX;have HXN:=hide hXn;have HAT:=hide hat;clear hrd hS hlen hX hXn hat fa hb0;go_enter Tryz.func9,Tryz.ntmps9;go_wp2_with fail;have FW0:=hide (show Fr (fun _=>False) w (((w.alloc (.cells #[.slice A n c] 31)).alloc (.cells #[.slice none 0 0] 25)).alloc (.cells #[.slice none 0 0] 25)) from(((Fr.refl _ _).alloc _).alloc _).alloc _)
 have HBB:=hide (show (((w.alloc (.cells #[.slice A n c] 31)).alloc (.cells #[.slice none 0 0] 25)).alloc (.cells #[.slice none 0 0] 25)).heap[w.heap.size]? =some (.cells #[.slice A n c] 31 (0,0))∧(((w.alloc (.cells #[.slice A n c] 31)).alloc (.cells #[.slice none 0 0] 25)).alloc (.cells #[.slice none 0 0] 25)).heap[w.heap.size+1]? =some (.cells #[.slice none 0 0] 25 (0,0))∧(((w.alloc (.cells #[.slice A n c] 31)).alloc (.cells #[.slice none 0 0] 25)).alloc (.cells #[.slice none 0 0] 25)).heap[w.heap.size+1+1]? =some (.cells #[.slice none 0 0] 25 (0,0)) from by
  have h1:=heap_alloc_new w (.cells #[.slice A n c] 31);have h2:=heap_alloc_new (w.alloc (.cells #[.slice A n c] 31)) (.cells #[.slice none 0 0] 25);have h3:=heap_alloc_new ((w.alloc (.cells #[.slice A n c] 31)).alloc (.cells #[.slice none 0 0] 25)) (.cells #[.slice none 0 0] 25);simp only[World.size_alloc] at h2 h3;refine⟨?_, ?_,h3⟩
  · rw[Below.heap_alloc _ _ _ (by simp;omega),Below.heap_alloc _ _ _ (by simp)];exact h1
  · rw[Below.heap_alloc _ _ _ (by simp)];exact h2)
 have HSZ:=hide (show (((w.alloc (.cells #[.slice A n c] 31)).alloc (.cells #[.slice none 0 0] 25)).alloc (.cells #[.slice none 0 0] 25)).heap.size=w.heap.size+1+1+1 from by simp);generalize (((w.alloc (.cells #[.slice A n c] 31)).alloc (.cells #[.slice none 0 0] 25)).alloc (.cells #[.slice none 0 0] 25))=W0 at*;have HJ0:=hide (show RefO W0 W0 (w.heap.size+1+1) none 0 none [] from⟨HBB.out.2.2,Own.nil_ _ _ _ _,fun y hy=>(by cases hy),fun k hk=>(by cases hk),fun y hy=>(by cases hy),Fr.refl _ _⟩);go_loopw [4] (fun iv wr=>∃(k:Nat) (B:Option Addr) (d:Nat) (o:Option Nat) (Y:List NodeX),iv=.int .i64 k∧k≤n∧Hid (RefO W0 wr (w.heap.size+1+1) B d o Y)∧Hid (Y.map (·.model)=N.take k)) (fun iv _=>n - (Go.RowKit.intOf iv).toNat)
 case atStart=>exact⟨0,none,0,none,[],rfl,Nat.zero_le _,HJ0,hide (by rw[List.take_zero];rfl)⟩
 case round=>
  obtain⟨k,B,d,o,Y,rfl,hk,hJ,hY⟩:=hrel;have hq0:=HSZ.out;have hbx:wr.heap[w.heap.size]? =some (.cells #[.slice A n c] 31 (0,0)):=by rw[hJ.out.fr.block w.heap.size (by omega) (by omega)];exact HBB.out.1
  have b1:wr.cell? ⟨w.heap.size,0,none⟩=some (.slice A n c):=by rw[cell_of_row _ _ _ _ _ _ hbx];rfl
  have HFW:=hide (show Fr (fun _=>False) w wr from FW0.out.then_ hJ.out.fr (fun k h1 h2=>by omega));by_cases hlt:k<n
  · have hki:(k:Int)<n:=by omega
    have hkX:k<X.length:=by rw[HXN.out];exact hlt
    have hkN:k<N.length:=by rw[HN.out];exact hlt
    have HAW:=HRD.out.fr HFW.out (fun k hk=>⟨HS.out k hk,fun h=>h⟩);obtain⟨g,off,cp,hv, -, -,hg,hc⟩:=HAW.rd.at_ (i:=k) (by simpa using hkX);simp only[Value.slice.injEq] at hv;obtain⟨rfl, -,rfl⟩:=hv;have q0:=hc 0 (by decide);have q1:=hc 1 (by decide);have q2:=hc 2 (by decide);have q3:=hc 3 (by decide);have q4:=hc 4 (by decide);have q5:=hc 5 (by decide);have q6:=hc 6 (by decide);rw[List.getElem_map] at q0 q1 q2 q3 q4 q5 q6;have hox:=HAW.ok _ (List.getElem_mem hkX);have hnx:N[k]=X[k].model:=by have:=HX.out;subst this;rw[List.getElem_map]
    have hts:N.take (k+1)=N.take k++[X[k].model]:=by rw[←hnx,List.take_succ_eq_append_getElem hkN]
    have hatt:X[k].ats.length≤1000000000:=by have:=HAT.out _ (List.getElem_mem hkN);rw[hnx] at this;exact this
    have HCX:=hide (zkv wr X[k].v);generalize X[k]=x at*;obtain⟨⟨xn,xA,xm,xc,xt,xp,xf,xe,xa⟩,xo,xs⟩:=x;have hox:Rd pairC wr S (.slice xA xm xc) xs:=hox;have hatt:xs.length≤1000000000:=hatt;obtain⟨hlx,hx63⟩:=hox.lenT;simp only[nodeC,Nat.add_zero,List.getElem?_cons_zero,List.getElem?_cons_succ,←Nat.add_assoc] at q0 q1 q2 q3 q4 q5 q6 HCX;obtain⟨x0,x1,x2,x3,x4,x5,x6⟩:=HCX.out _ (Fr.refl _ _);have HTS:=hide hts;have HLX:=hide hlx;have HOX:=hide hox;have HATT:=hide hatt;clear hc hg hkX hkN hnx hts hox hlx hatt HAW;go_wp2_with fail;have FY:=hide (show Fr (fun _=>False) wr ((wr.alloc (.cells #[.string xn,.slice xA xm xc,.string xt,.int .i64 xp,.int .i64 xf,.int .i64 xe,.int .i64 xa] 45)).alloc (.cells #[.string xn,.slice none 0 0,.string xt,.int .i64 xp,.int .i64 xf,.int .i64 xe,.int .i64 xa] 79)) from((Fr.refl _ _).alloc _).alloc _);have HYB:=hide (show ((wr.alloc (.cells #[.string xn,.slice xA xm xc,.string xt,.int .i64 xp,.int .i64 xf,.int .i64 xe,.int .i64 xa] 45)).alloc (.cells #[.string xn,.slice none 0 0,.string xt,.int .i64 xp,.int .i64 xf,.int .i64 xe,.int .i64 xa] 79)).heap[wr.heap.size+1]? =some (.cells #[.string xn,.slice none 0 0,.string xt,.int .i64 xp,.int .i64 xf,.int .i64 xe,.int .i64 xa] 79 (0,0)) from by have:=heap_alloc_new (wr.alloc (.cells #[.string xn,.slice xA xm xc,.string xt,.int .i64 xp,.int .i64 xf,.int .i64 xe,.int .i64 xa] 45)) (.cells #[.string xn,.slice none 0 0,.string xt,.int .i64 xp,.int .i64 xf,.int .i64 xe,.int .i64 xa] 79);simpa using this);have HXB:=hide (show ((wr.alloc (.cells #[.string xn,.slice xA xm xc,.string xt,.int .i64 xp,.int .i64 xf,.int .i64 xe,.int .i64 xa] 45)).alloc (.cells #[.string xn,.slice none 0 0,.string xt,.int .i64 xp,.int .i64 xf,.int .i64 xe,.int .i64 xa] 79)).heap[wr.heap.size]? =some (.cells #[.string xn,.slice xA xm xc,.string xt,.int .i64 xp,.int .i64 xf,.int .i64 xe,.int .i64 xa] 45 (0,0)) from by rw[Below.heap_alloc _ _ _ (by simp)];exact heap_alloc_new wr _);have HYS:=hide (show ((wr.alloc (.cells #[.string xn,.slice xA xm xc,.string xt,.int .i64 xp,.int .i64 xf,.int .i64 xe,.int .i64 xa] 45)).alloc (.cells #[.string xn,.slice none 0 0,.string xt,.int .i64 xp,.int .i64 xf,.int .i64 xe,.int .i64 xa] 79)).heap.size=wr.heap.size+1+1 from by simp);clear x0 x1 x2 x3 x4 x5 x6 HCX q0 q1 q2 q3 q4 q5 q6 b1 hbx;generalize ((wr.alloc (.cells #[.string xn,.slice xA xm xc,.string xt,.int .i64 xp,.int .i64 xf,.int .i64 xe,.int .i64 xa] 45)).alloc (.cells #[.string xn,.slice none 0 0,.string xt,.int .i64 xp,.int .i64 xf,.int .i64 xe,.int .i64 xa] 79))=Wy at*;have HJ1:=hide (show RefJ Wy Wy (wr.heap.size+1) ⟨xn,xA,xm,xc,xt,xp,xf,xe,xa⟩ none 0 none (xs.take 0) from⟨HYB.out,Own.nil_ _ _ _ _,fun k hk=>(by cases hk),Fr.refl _ _⟩);have HWS:=hide (show ∀k,S k→k<wr.heap.size from fun k hk=>Nat.lt_of_lt_of_le (HS.out k hk) HFW.out.size);generalize hq:wr.heap.size=q at*;generalize hWR:wr=WR at*;have HQ:=hide hq;clear hq;go_loopw [7] (fun jv wr=>∃(j:Nat) (B:Option Addr) (d:Nat) (o:Option Nat),jv=.int .i64 j∧j≤xm∧Hid (RefJ Wy wr (q+1) ⟨xn,xA,xm,xc,xt,xp,xf,xe,xa⟩ B d o (xs.take j))) (fun jv _=>xm - (Go.RowKit.intOf jv).toNat)
    case atStart=>exact⟨0,none,0,none,rfl,Nat.zero_le _,HJ1⟩
    case round=>
     obtain⟨j,B1,d1,o1,rfl,hj,hR⟩:=hrel;clear HJ1;have hys:=HYS.out;have hxb:wr.heap[q]? =some (.cells #[.string xn,.slice xA xm xc,.string xt,.int .i64 xp,.int .i64 xf,.int .i64 xe,.int .i64 xa] 45 (0,0)):=by rw[hR.out.fr.block q (by omega) (by omega)];exact HXB.out
     have z1:wr.cell? ⟨q,1,none⟩=some (.slice xA xm xc):=by rw[cell_of_row _ _ _ _ _ _ hxb];rfl
     have hlj:(xs.take j).length=j:=by rw[List.length_take,HLX.out];omega
     have hqs:q<wr.heap.size:=(Array.getElem?_eq_some_iff.1 hxb).1;by_cases hjl:j<xm
     · have hji:(j:Int)<xm:=by omega
       have hjx:j<xs.length:=by rw[HLX.out];exact hjl
       have hSW:∀k,S k→k<wr.heap.size:=fun k hk=>by have:=HWS.out k hk;omega
       obtain⟨ga,offa,ca,hva, -, -,hga,hca⟩:=((HOX.out.fr FY.out (fun k hk=>⟨by have:=HWS.out k hk;have:=HQ.out;omega,fun h=>h⟩)).fr hR.out.fr (fun k hk=>⟨by have:=HWS.out k hk;omega,by have:=HWS.out k hk;omega⟩)).at_ hjx;simp only[Value.slice.injEq] at hva;obtain⟨rfl, -,rfl⟩:=hva;have a0:=hca 0 (by decide);have a1:=hca 1 (by decide);have htk:xs.take (j+1)=xs.take j++[xs[j]]:=by rw[List.take_succ_eq_append_getElem hjx]
       obtain⟨B2,d2,w6,hrun,c6,f6,hJ6⟩:=hR.out.step (by omega) xs[j] (by rw[hlj];have:=HATT.out;omega);rw[hlj,←htk] at hJ6;rw[hlj] at hrun c6;generalize xs[j]=av at*;obtain⟨an,av⟩:=av;simp only[pairC,Nat.add_zero,List.getElem?_cons_zero,List.getElem?_cons_succ,←Nat.add_assoc] at a0 a1;have hyb:=hR.out.yb;rw[hlj] at hyb;have y1:wr.cell? ⟨q+1,1,none⟩=some (.slice B1 j d1):=by rw[cell_of_row _ _ _ _ _ _ hyb];rfl
       have hqs1:q+1<wr.heap.size:=(Array.getElem?_eq_some_iff.1 hyb).1;have fd:Fr (fun _=>False) wr ((wr.alloc (.cells #[.string an,.string av] 80)).drew):=(Fr.alloc (Fr.refl _ _) _).drew;have y2:=(fd.cell (p:=⟨q+1,1,none⟩) hqs1 (fun h=>h)).trans y1;clear hca hga hjx htk hyb hSW hxb fd;go_wp2_with fail;go_region;obtain⟨o2,hJ7⟩:=hJ6.out;go_wp2_with fail;exact⟨⟨j+1,B2,d2,o2,by go_num,by omega,hide hJ7⟩,by simp[Go.RowKit.intOf];omega⟩
     · have hjm:j=xm:=by omega
       have hji:¬(j:Int)<xm:=by omega
       have hjX:xs.take j=xs:=List.take_of_length_le (by rw[HLX.out];omega);have hyb:=hR.out.yb;rw[hlj,hjm] at hyb;have hqs1:q+1<wr.heap.size:=(Array.getElem?_eq_some_iff.1 hyb).1;have F2:=hide (show Fr (fun k=>WR.heap.size≤k) WR wr from(FY.out.mono (fun _ h=>h.elim)).trans (hR.out.fr.mono (fun k hk=>by have:=HQ.out;omega)));have hq0:=HSZ.out;have hws:=hJ.out.fr.size;have hob:wr.heap[w.heap.size+1+1]? =some (.cells #[.slice B Y.length d] 25 (0,0)):=by rw[F2.out.block _ (by omega) (by omega)];exact hJ.out.ob
       have u0:wr.cell? ⟨w.heap.size+1+1,0,none⟩=some (.slice B Y.length d):=by rw[cell_of_row _ _ _ _ _ _ hob];rfl
       have v0:wr.cell? ⟨q+1,0,none⟩=some (.string xn):=by rw[cell_of_row _ _ _ _ _ _ hyb];rfl
       have v1:wr.cell? ⟨q+1,1,none⟩=some (.slice B1 xm d1):=by rw[cell_of_row _ _ _ _ _ _ hyb];rfl
       have v2:wr.cell? ⟨q+1,2,none⟩=some (.string xt):=by rw[cell_of_row _ _ _ _ _ _ hyb];rfl
       have v3:wr.cell? ⟨q+1,3,none⟩=some (.int .i64 xp):=by rw[cell_of_row _ _ _ _ _ _ hyb];rfl
       have v4:wr.cell? ⟨q+1,4,none⟩=some (.int .i64 xf):=by rw[cell_of_row _ _ _ _ _ _ hyb];rfl
       have v5:wr.cell? ⟨q+1,5,none⟩=some (.int .i64 xe):=by rw[cell_of_row _ _ _ _ _ _ hyb];rfl
       have v6:wr.cell? ⟨q+1,6,none⟩=some (.int .i64 xa):=by rw[cell_of_row _ _ _ _ _ _ hyb];rfl
       have HOW:=hide (hJ.out.own.fr F2.out (fun k hk e=>by have:=hJ.out.own.lt k hk;omega));have hYl:Y.length=k:=by have:=congrArg List.length hY.out;rw[List.length_map,List.length_take,HN.out] at this;omega
       have HB1:=hide (show (Y.length+1)*88≤140737488355328 from by omega);have HOY:=hide (show (⟨⟨xn,B1,xm,d1,xt,xp,xf,xe,xa⟩,o1,xs⟩:NodeX).v.m=(⟨⟨xn,B1,xm,d1,xt,xp,xf,xe,xa⟩,o1,xs⟩:NodeX).ats.length∧Own pairC wr 80 (.slice B1 xm d1) o1 xs from by refine⟨HLX.out.symm, ?_⟩;have:=hR.out.own;rw[hlj,hjX,hjm] at this;exact this);have HOYN:=hide (show ∀k,o1=some k→WR.heap.size≤k from fun k hk=>by have:=hR.out.new k hk;have:=HQ.out;omega);have HYL:=hide hYl;clear hyb hob hjX hYl hxb hys hws;go_wp2_with (at_builtin;refine z0d (news:=[(⟨xn,B1,xm,d1,xt,xp,xf,xe,xa⟩:NodeV)]) rfl rfl ztz (by rfl) (by rfl) (HOW.out.fr (Fr.alloc (Fr.refl (fun _=>False) _) _) (fun _ _ h=>h)) (zkw nodeC (⟨xn,B1,xm,d1,xt,xp,xf,xe,xa⟩:NodeV) (E:=79) (heap_alloc_new wr _)) (by rw[List.length_map];exact HB1.out) ?_;intro B3 d3 w3 o3 m3 g3 n3;rw[List.length_map] at m3⊢;obtain⟨p0,p1,PJ⟩:=hJ.out.push (y:=⟨⟨xn,B1,xm,d1,xt,xp,xf,xe,xa⟩,o1,xs⟩) (by omega) F2.out HOY.out HOYN.out m3 g3 n3;have PJ:=hide PJ;clear m3 g3 n3);exact⟨⟨k+1,B3,d3,o3,_,by go_num,by omega,PJ,hide (by rw[HTS.out,List.map_append,hY.out];rfl)⟩,by simp[Go.RowKit.intOf];omega⟩
  · have hkn:k=n:=by omega
    have hki:¬(k:Int)<n:=by omega
    have hob:=hJ.out.ob;have hYl:Y.length=n:=by have:=congrArg List.length hY.out;rw[List.length_map,List.length_take,HN.out] at this;omega
    rw[hYl] at hob;have u0:wr.cell? ⟨w.heap.size+1+1,0,none⟩=some (.slice B n d):=by rw[cell_of_row _ _ _ _ _ _ hob];rfl
    have hrb:wr.heap[w.heap.size+1]? =some (.cells #[.slice none 0 0] 25 (0,0)):=by rw[hJ.out.fr.block _ (by omega) (by omega)];exact HBB.out.2.1
    have r0:wr.cell? ⟨w.heap.size+1,0,none⟩=some (.slice none 0 0):=by rw[cell_of_row _ _ _ _ _ _ hrb];rfl
    have rf:=frozen_of_row wr (w.heap.size+1) 0 _ _ hrb;have hc2:=heap_setCell_same wr (w.heap.size+1) 0 _ _ (.slice B n d) hrb;have k2:=cell_of_row (wr.setCell ⟨w.heap.size+1,0,none⟩ (.slice B n d)) (w.heap.size+1) 0 _ _ _ hc2;simp at k2;have HK2:=hide k2;have fset:=Fr.set_b wr (w.heap.size+1) 0 (.slice B n d);have HFE:=hide (show Fr (fun _=>False) w (wr.setCell ⟨w.heap.size+1,0,none⟩ (.slice B n d)) from HFW.out.then_ fset (fun k h1 h2=>by omega))
    have HTR:=hide (show TrN w.heap.size N (wr.setCell ⟨w.heap.size+1,0,none⟩ (.slice B n d)) B n d from by
     have hown:=hJ.out.own;rw[hYl] at hown;have hq1:=HSZ.out;refine⟨Y,fun k=>w.heap.size≤k∧k<wr.heap.size,⟨?_,fun y hy=> ?_⟩,fun k hk=>⟨hk.1,Nat.lt_of_lt_of_le hk.2 fset.size⟩, ?_⟩
     · exact((hown.fr fset (fun k hk e=>by have:=hJ.out.new k hk;omega)).rd).mono (fun k hk=>⟨by have:=hJ.out.new k hk;omega,hown.lt k hk⟩)
     · obtain⟨a1,a2⟩:=hJ.out.ok y hy;exact((a2.fr fset (fun k hk e=>by have:=(hJ.out.newa y hy k hk).1;omega)).rd).mono (fun k hk=>⟨by have:=(hJ.out.newa y hy k hk).1;omega,a2.lt k hk⟩)
     · rw[hY.out,hkn];exact List.take_of_length_le (by rw[HN.out];exact Nat.le_refl _))
    clear hob hrb hc2 k2 fset hbx;go_wp2_with fail;refine bodyPost_ret (v:=.agg #[.slice B n d]) (by simp[results,Tryz.results9,go_sem,HK2.out]) rfl ?_;exact⟨B,d,rfl,HTR,HFE.out⟩
end Go.Proofs.YtnlacmnoocigiaaGreatDoor
