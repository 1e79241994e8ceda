/- Traces: the closed law TraceKnown: what it asks of texts' lengths, and of the other laws. -/
import Derived.Test.YtpjodoipceddpaaGreatDoorRcT
namespace Go.Proofs.YtpjodoipceddpaaGreatDoor.Aw
open Go.RowKit Go.Lib Rc
set_option maxHeartbeats 8000000
set_option maxRecDepth 100000
theorem words_few {r:RecM} (hm:mayB nmB r=true) (hl:r.list.length≤2) (hn:r.name.length≤21) (h64:In64 r):(wordsM r).length≤4∧∀x∈wordsM r,x.length≤21:=by
 have hop:∀o:Nat,(Rc.opW o).length≤21:=fun o=>by
  unfold Rc.opW
  split<;>simp
 have hit:∀n:Int,In1 n→(itoa n).length≤21:=fun n hn=>by
  exact itoa_len hn.1 hn.2
 have hmap:∀l:List Int,Fit l→∀x∈l.map itoa,x.length≤21:=fun l hf x hx=>by
  obtain⟨n,hn,rfl⟩:=List.mem_map.1 hx
  exact hit n (hf n hn)
 cases may_of hm with
 |call n a hnm=>
  unfold wordsM
  simp only[if_true,List.getD_cons_zero]
  refine⟨by split<;>simp,fun x hx=> ?_⟩
  split at hx
  · simp only[List.mem_cons,List.not_mem_nil,or_false] at hx
    rcases hx with rfl|rfl|rfl|rfl
    · exact hop 8
    · decide
    · exact hn
    · exact hit a h64.a
  · simp only[List.mem_cons,List.not_mem_nil,or_false] at hx
    rcases hx with rfl|rfl|rfl
    · exact hop 8
    · decide
    · exact hit 0 ⟨by decide,by decide⟩
 |event k a hk hpl=>
  unfold wordsM
  simp only[if_true,List.getD_cons_zero]
  rw[if_neg (show ¬(([]:T)≠[]) by simp)]
  refine⟨by simp,fun x hx=> ?_⟩
  simp only[List.mem_cons,List.not_mem_nil,or_false] at hx
  rcases hx with rfl|rfl|rfl
  · exact hop 8
  · rcases hk with rfl|rfl<;>decide
  · exact hit a (place_fit hpl)
 |plain o a l ho hf=>
  simp only at hl
  unfold wordsM
  simp only
  rw[if_neg (by omega),if_neg (by omega),if_neg (by omega)]
  refine⟨by simp;omega,fun x hx=> ?_⟩
  simp only[List.mem_cons] at hx
  rcases hx with rfl|rfl|hx
  · exact hop o
  · exact hit a (hf a List.mem_cons_self)
  · exact hmap l (fun n hn=>hf n (List.mem_cons_of_mem _ hn)) x hx
 |list o l ho hf=>
  simp only at hl
  unfold wordsM
  simp only
  rw[if_neg (by omega),if_pos ho]
  refine⟨by simp;omega,fun x hx=> ?_⟩
  rw[List.mem_cons] at hx
  rcases hx with rfl|hx
  · exact hop o
  · exact hmap l hf x hx
 |bare o ho=>
  unfold wordsM
  simp only
  rw[if_neg (by omega),if_neg (by omega),if_pos ho]
  refine⟨by simp,fun x hx=> ?_⟩
  rw[List.mem_singleton] at hx
  rw[hx]
  exact hop o
theorem lens_le21 :∀l:List T,(∀x∈l,x.length≤21)→lens l≤21*l.length
 |[],_=>by simp[lens]
 |y::l,h=>by
  have h4:=h y List.mem_cons_self
  have h5:=lens_le21 l (fun z hz=>h z (List.mem_cons_of_mem _ hz))
  unfold lens at h5⊢
  rw[List.map_cons,List.sum_cons,List.length_cons]
  omega
theorem text_few {r:RecM} (hm:mayB nmB r=true) (hl:r.list.length≤2) (hn:r.name.length≤21) (h64:In64 r):(textM r).length≤100:=by
 obtain⟨h1,h2⟩:=words_few hm hl hn h64
 unfold textM
 generalize wordsM r=W at h1 h2
 cases W with
 |nil=>simp[join_nil]
 |cons x W=>
  have:=lens_le21 (x::W) h2
  rw[join_length,List.length_singleton]
  rw[List.length_cons] at this h1
  omega
theorem put_two {r:RecM} (hl:r.list.length≤2) (hn:r.name.length≤21) (h64:In64 r):(putA [] [r,⟨10,0,[],0,[]⟩]).1.length≤900:=by
 rw[putA]
 by_cases hm:mayB nmB r=true
 · rw[if_pos hm,putA_acc]
   have h1:=text_few hm hl hn h64
   have h2:(putA [] [⟨10,0,[],0,[]⟩]).1.length≤10:=by decide
   split
   · rw[List.length_append,List.length_append,List.length_append,List.length_singleton,List.length_nil]
     omega
   · simp
 · rw[if_neg hm]
   simp
theorem gets_con (s:ByteArray) (w:World) (hst:TrS w):ConAt Tryz.prog w 3 (eS s) (.sc (.bool true)) []:=by
 refine con_flat fun S vs hS hlen hv=> ?_
 match vs,hlen with
 |[u],_=>
  have:=(hv 0 _ u rfl rfl).sc_inv
  subst this
  exact traceGets_any s w hst
end Go.Proofs.YtpjodoipceddpaaGreatDoor.Aw
