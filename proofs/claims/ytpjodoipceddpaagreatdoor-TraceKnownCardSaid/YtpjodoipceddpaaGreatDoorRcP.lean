/- Traces: what is put is got as it was, and back; one behind the other: in plain Lean. -/
import Derived.Test.YtpjodoipceddpaaGreatDoorRcK
import Derived.Test.YtpjodoipceddpaaGreatDoorRecC
namespace Go.Proofs.YtpjodoipceddpaaGreatDoor.Aw
open Go.RowKit Go.Lib Rc
theorem itoa_no10 (n:Int):∀c∈itoa n,c≠10:=fun c hc e=>by
 have:=itoa_all n c hc
 subst e
 have h:(10:UInt8).toNat=10:=rfl
 omega
theorem words_no10 {r:RecM} (hm:mayB nmB r=true):∀y∈wordsM r,∀c∈y,c≠10:=by
 have hop:∀o:Nat,∀c∈Rc.opW o,c≠10:=fun o=>by
  unfold Rc.opW
  split<;>decide
 have hk:∀k:Int,∀c∈kindW k,c≠10:=fun k=>by
  unfold kindW
  split
  · decide
  · split
    · decide
    · split<;>decide
 have hmap:∀l:List Int,∀y∈l.map itoa,∀c∈y,c≠10:=fun l y hy=>by
  obtain⟨n, -,rfl⟩:=List.mem_map.1 hy
  exact itoa_no10 n
 intro y hy
 unfold wordsM at hy
 rw[List.mem_cons] at hy
 rcases hy with rfl|hy
 · exact hop _
 by_cases h8:r.op=8
 · rw[if_pos h8,List.mem_cons] at hy
   rcases hy with rfl|hy
   · exact hk _
   by_cases hz:r.name≠[]
   · rw[if_pos hz] at hy
     have hnm:nmB r.name=true:=by
      unfold mayB at hm
      rw[if_pos h8,Bool.and_eq_true] at hm
      have h2:=hm.2
      split at h2
      · rw[Bool.and_eq_true] at h2
        exact h2.2
      · simp only[Bool.and_eq_true,decide_eq_true_eq] at h2
        exact absurd h2.1.2 hz
     simp only[List.mem_cons,List.not_mem_nil,or_false] at hy
     rcases hy with rfl|rfl
     · intro c hc e
       unfold nmB at hnm
       simp only[Bool.and_eq_true,List.all_eq_true] at hnm
       have:=hnm.1.1.2 c hc
       rw[e] at this
       revert this
       decide
     · exact itoa_no10 _
   · rw[if_neg hz,List.mem_singleton] at hy
     rw[hy]
     exact itoa_no10 _
 rw[if_neg h8] at hy
 by_cases h9:r.op=9∨r.op=12
 · rw[if_pos h9] at hy
   exact hmap _ y hy
 rw[if_neg h9] at hy
 by_cases h10:r.op=10∨r.op=11
 · rw[if_pos h10] at hy
   cases hy
 rw[if_neg h10,List.mem_cons] at hy
 rcases hy with rfl|hy
 · exact itoa_no10 _
 · exact hmap _ y hy
theorem join_no10 :∀W:List T,(∀y∈W,∀c∈y,c≠10)→∀c∈join W [32],c≠10
 |[],_,c,hc=>by cases hc
 |x::W,h,c,hc=>by
  rw[join_cons,List.mem_append] at hc
  rcases hc with hc|hc
  · exact h x List.mem_cons_self c hc
  · unfold joinTail at hc
    rw[List.mem_flatten] at hc
    obtain⟨z,hz,hcz⟩:=hc
    obtain⟨y,hy,rfl⟩:=List.mem_map.1 hz
    rw[List.mem_append] at hcz
    rcases hcz with hcz|hcz
    · rw[List.mem_singleton] at hcz
      rw[hcz]
      decide
    · exact h y (List.mem_cons_of_mem _ hy) c hcz
theorem text_no10 {r:RecM} (hm:mayB nmB r=true):∀c∈textM r,c≠10:=join_no10 _ (words_no10 hm)
theorem putA_acc :∀(X:List RecM) (acc:T),putA acc X=(if(putA [] X).2=0 then(acc++(putA [] X).1,0) else([],2))
 |[],acc=>by simp[putA]
 |r::X,acc=>by
  rw[putA,putA]
  by_cases hm:mayB nmB r=true
  · rw[if_pos hm,if_pos hm,putA_acc X (acc++(textM r++[10])),putA_acc X ([]++(textM r++[10]))]
    by_cases h:(putA [] X).2=0
    · rw[if_pos h,if_pos h,if_pos rfl]
      simp
    · rw[if_neg h,if_neg h,if_neg (by decide)]
  · rw[if_neg hm,if_neg hm,if_neg (by decide)]
theorem putA_err :∀(X:List RecM),(putA [] X).2≠0→putA [] X=([],2)
 |[],h=>absurd rfl h
 |r::X,h=>by
  rw[putA] at h⊢
  by_cases hm:mayB nmB r=true
  · rw[if_pos hm] at h⊢
    rw[putA_acc X] at h⊢
    by_cases h2:(putA [] X).2=0
    · rw[if_pos h2] at h
      exact absurd rfl h
    · rw[if_neg h2]
  · rw[if_neg hm]
theorem readAll_put :∀(X:List RecM) (a rest:T) (f p:Nat) (acc:List RecM),(∀r∈X,In64 r)→putA [] X=(a,0)→readAll (lineP nmB) (f+X.length) (a++rest) p acc=readAll (lineP nmB) f rest (p+a.length) (acc++X)
 |[],a,rest,f,p,acc,_,h=>by
  cases h
  simp
 |r::X,a,rest,f,p,acc,h64,h=>by
  rw[putA] at h
  by_cases hm:mayB nmB r=true
  · rw[if_pos hm,putA_acc X] at h
    by_cases h2:(putA [] X).2=0
    · rw[if_pos h2] at h
      cases h
      have e:[]++(textM r++[10])++(putA [] X).1++rest=textM r++10::((putA [] X).1++rest):=by simp
      rw[e,List.length_cons,show f+(X.length+1)=f+X.length+1 by omega,readAll,if_neg (by simp),cutL_run _ _ (text_no10 hm)]
      simp only
      rw[lineP_text nmOk (h64 r List.mem_cons_self) hm]
      simp only
      rw[readAll_put X (putA [] X).1 rest f _ _ (fun x hx=>h64 x (List.mem_cons_of_mem _ hx)) (Prod.ext rfl h2)]
      congr 1
      · simp;omega
      · simp
    · rw[if_neg h2] at h
      cases h
  · rw[if_neg hm] at h
    cases h
theorem putA_len :∀(X:List RecM) (a:T),putA [] X=(a,0)→X.length≤a.length
 |[],a,h=>Nat.zero_le _
 |r::X,a,h=>by
  rw[putA] at h
  by_cases hm:mayB nmB r=true
  · rw[if_pos hm,putA_acc X] at h
    by_cases h2:(putA [] X).2=0
    · rw[if_pos h2] at h
      cases h
      have:=putA_len X (putA [] X).1 (Prod.ext rfl h2)
      simp
      omega
    · rw[if_neg h2] at h
      cases h
  · rw[if_neg hm] at h
    cases h
theorem get_put {X:List RecM} {a:T} (h64:∀r∈X,In64 r) (h:putA [] X=(a,0)) (hs:a.length≤1048576):getM (lineP nmB) a=(X,0,0):=by
 unfold getM
 rw[if_neg (by omega)]
 have hl:=putA_len X a h
 have:=readAll_put X a [] (a.length+1 - X.length) 0 [] h64 h
 rw[List.append_nil,show a.length+1 - X.length+X.length=a.length+1 by omega] at this
 rw[this]
 obtain⟨g,hg⟩:∃g,a.length+1 - X.length=g+1:=⟨a.length - X.length,by omega⟩
 rw[hg,readAll,if_pos rfl]
 simp
theorem readAll_back :∀(f:Nat) (s:T) (p:Nat) (acc Y:List RecM) (q:Nat),readAll (lineP nmB) f s p acc=(Y,q,0)→∃Z,Y=acc++Z∧putA [] Z=(s,0)
 |0,s,p,acc,Y,q,h=>by cases h
 |f+1,s,p,acc,Y,q,h=>by
  rw[readAll] at h
  split at h
  · rename_i hs
    cases h
    exact⟨[],by simp,by rw[hs];rfl⟩
  · split at h
    · cases h
    · rename_i t r hc
      split at h
      · cases h
      · rename_i x hx
        obtain⟨Z,hZ,hp⟩:=readAll_back f r _ _ Y q h
        obtain⟨h1,h2⟩:=lineP_some hx
        refine⟨x::Z,by rw[hZ];simp, ?_⟩
        rw[putA,if_pos h1,putA_acc Z,hp,if_pos rfl,h2]
        have:=(cut_index s _ hc).2
        rw[this]
        simp
theorem put_get {s:T} {Y:List RecM} {q:Nat} (h:getM (lineP nmB) s=(Y,q,0)):putA [] Y=(s,0):=by
 unfold getM at h
 split at h
 · cases h
 · obtain⟨Z,rfl,hp⟩:=readAll_back _ _ _ _ _ _ h
   exact hp
theorem readAll_in :∀(f:Nat) (s:T) (p:Nat) (acc:List RecM),(∀r∈acc,In64 r)→∀r∈(readAll (lineP nmB) f s p acc).1,In64 r
 |0,s,p,acc,h=>by intro r hr;cases hr
 |f+1,s,p,acc,h=>by
  rw[readAll]
  split
  · exact h
  · split
    · intro r hr;cases hr
    · split
      · intro r hr;cases hr
      · rename_i x hx
        exact readAll_in f _ _ _ (fun y hy=>by
         rcases List.mem_append.1 hy with hy|hy
         · exact h y hy
         · rw[List.mem_singleton] at hy
           rw[hy]
           exact lineP_in hx)
theorem getM_in (s:T):∀r∈(getM (lineP nmB) s).1,In64 r:=by
 unfold getM
 split
 · intro r hr;cases hr
 · exact readAll_in _ _ _ _ (fun r hr=>by cases hr)
end Go.Proofs.YtpjodoipceddpaaGreatDoor.Aw
