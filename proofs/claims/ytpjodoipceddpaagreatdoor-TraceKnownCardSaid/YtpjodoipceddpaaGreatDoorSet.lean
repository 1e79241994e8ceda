/- Owned slices: one cell of one element, stored to. Over any program. -/
import Derived.Test.YtpjodoipceddpaaGreatDoorBase
namespace Go.Proofs.YtpjodoipceddpaaGreatDoor
open Go.RowKit
section
variable {α : Type} {C : Cod α} {w : World} {E : TypeId} {o : Option Nat} {g off n cap : Nat} {l : List α}
theorem Own.raw (h:Own C w E (.slice (some ⟨g,off,none⟩) n cap) (some g) l):∃cur,w.heap[g]? =some (.cells cur E (0,0))∧0<cap∧n=l.length∧l.length≤cap∧cap≤maxLen∧off+cap*C.size≤cur.size∧∀t,t<l.length*C.size→cur[off+t]? =(C.flat l)[t]? :=by
 rcases h with ⟨A,h1,h2,h3⟩|⟨g',off',cap',cur,h1,h2,h3,h4,h5,h6,h7,h8⟩
 · cases h2
 · simp only[Value.slice.injEq,Option.some.injEq,Addr.mk.injEq] at h1
   obtain⟨⟨rfl,rfl, -⟩,rfl,rfl⟩:=h1
   refine⟨cur,h3,h4,rfl,h5,h6,h7,fun t ht=> ?_⟩
   rw[←h8,List.getElem?_take,if_pos ht,List.getElem?_drop]
   simp
theorem Own.of_raw {cur:Array Value} (hg:w.heap[g]? =some (.cells cur E (0,0))) (h0:0<cap) (hl:l.length≤cap) (hm:cap≤maxLen) (hf:off+cap*C.size≤cur.size) (hc:∀t,t<l.length*C.size→cur[off+t]? =(C.flat l)[t]?):
 Own C w E (.slice (some ⟨g,off,none⟩) l.length cap) (some g) l:=by
 refine .inr ⟨g,off,cap,cur,rfl,rfl,hg,h0,hl,hm,hf, ?_⟩
 have hle:l.length*C.size≤cap*C.size:=Nat.mul_le_mul_right _ hl
 apply List.ext_getElem?
 intro t
 rw[List.getElem?_take]
 split
 · rename_i ht
   rw[List.getElem?_drop]
   have:=hc t ht
   simpa using this
 · rename_i ht
   rw[List.getElem?_eq_none (by rw[C.flat_len];omega)]
theorem Own.set1 (h:Own C w E (.slice (some ⟨g,off,none⟩) n cap) (some g) l) {i j:Nat} (hi:i<l.length) (hj:j<C.size) {u:Value} {x':α} (hx:C.cells x'=(C.cells l[i]).set j u):
 Own C (w.setCell ⟨g,off+(i*C.size+j),none⟩ u) E (.slice (some ⟨g,off,none⟩) n cap) (some g) (l.set i x'):=by
 obtain⟨cur,hg,h0,rfl,hl,hm,hf,hc⟩:=h.raw
 have s1:=heap_setCell_same w g (off+(i*C.size+j)) cur E u hg
 have hlen:(l.set i x').length=l.length:=by simp
 have hcs:l.length*C.size≤cap*C.size:=Nat.mul_le_mul_right _ hl
 rw[←hlen]
 refine Own.of_raw s1 h0 (by rw[hlen];exact hl) hm (by simpa using hf) fun q hq=> ?_
 rw[hlen] at hq
 have hC:=C.pos
 have hq4:q=(q / C.size)*C.size+q % C.size:=by rw[Nat.mul_comm];exact(Nat.div_add_mod q C.size).symm
 have hr:q % C.size<C.size:=Nat.mod_lt _ hC
 have hql:q / C.size<l.length:=Nat.div_lt_of_lt_mul (by rw[Nat.mul_comm];exact hq)
 have e1:(C.flat (l.set i x'))[q]? =(C.cells ((l.set i x')[q / C.size]'(by rw[hlen];exact hql)))[q % C.size]? :=by
  have:=C.flat_at (l.set i x') (q / C.size) (q % C.size) (by rw[hlen];exact hql) hr
  rw[←hq4] at this
  exact this
 have e2:cur[off+q]? =(C.cells l[q / C.size])[q % C.size]? :=by
  have:=C.flat_at l (q / C.size) (q % C.size) hql hr
  rw[←hq4] at this
  rw[hc q hq,this]
 rw[e1]
 generalize hd:q / C.size=d at*
 generalize hm':q % C.size=r at*
 have hin:off+q<cur.size:=by omega
 by_cases hqi:d=i
 · subst hqi
   simp only[List.getElem_set_self]
   rw[hx]
   by_cases hrj:r=j
   · subst hrj
     rw[←hq4,List.getElem?_set_self (by rw[C.len];exact hr)]
     simp[Array.getElem?_setIfInBounds,hin]
   · rw[List.getElem?_set_ne (fun e=>hrj e.symm),←e2]
     have hne:¬d*C.size+j=q:=by omega
     simp[Array.getElem?_setIfInBounds,hne]
 · rw[List.getElem_set_ne (fun e=>hqi e.symm),←e2]
   have hne:¬i*C.size+j=q:=by
    intro e
    apply hqi
    have e3:d*C.size+r=i*C.size+j:=by omega
    rcases Nat.lt_trichotomy d i with h1|h1|h1
    · have:(d+1)*C.size≤i*C.size:=Nat.mul_le_mul_right _ h1
      rw[Nat.add_mul,Nat.one_mul] at this
      omega
    · exact h1
    · have:(i+1)*C.size≤d*C.size:=Nat.mul_le_mul_right _ h1
      rw[Nat.add_mul,Nat.one_mul] at this
      omega
   simp[Array.getElem?_setIfInBounds,hne]
end
end Go.Proofs.YtpjodoipceddpaaGreatDoor
