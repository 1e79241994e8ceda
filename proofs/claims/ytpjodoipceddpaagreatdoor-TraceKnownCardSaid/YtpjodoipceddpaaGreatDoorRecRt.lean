/- Records as text, in plain Lean: the program and the document read the same. -/
import Derived.Test.YtpjodoipceddpaaGreatDoorRecPq
import Derived.Lib.IndexMore
namespace Go.Proofs.YtpjodoipceddpaaGreatDoor.Rc
open Go.Lib
def In (n:Int):Prop:= -9223372036854775808≤n∧n≤9223372036854775807
theorem intB_in {l:T} {v:Int} (h:parseIntB 64 l=.ok v):In v:=by
 unfold parseIntB at h
 split at h
 · cases h
 · simp only at h
   split at h
   · cases h
   · cases h
   · split at h
     · cases h
     · split at h
       · cases h
       · rename_i u _ h1 h2
         cases h
         unfold In
         split
         · rename_i hn
           have:u≤2 ^ (64 - 1):=by
            rcases Nat.lt_or_ge (2 ^ (64 - 1)) u with h3|h3
            · exact absurd ⟨hn,h3⟩ h2
            · exact h3
           omega
         · rename_i hn
           have:u<2 ^ (64 - 1):=by
            rcases Nat.lt_or_ge u (2 ^ (64 - 1)) with h3|h3
            · exact h3
            · exact absurd ⟨hn,h3⟩ h1
           omega
theorem pp_in (w:T):In (ppM w).1:=by
 unfold ppM
 split
 · split
   · rename_i v h
     exact intB_in h
   · exact⟨by decide,by decide⟩
   · exact⟨by decide,by decide⟩
 · exact⟨by decide,by decide⟩
theorem fits_in :∀(l:List Int) (n m:Int),(∀d∈l,0≤d∧d<10)→ -9223372036854775808≤n→n≤0→fitsM l n=some m→ -9223372036854775808≤m∧m≤0
 |[],n,m,_,h1,h2,h=>by
  cases h
  exact⟨h1,h2⟩
 |d::l,n,m,hd,h1,h2,h=>by
  rw[fitsM] at h
  have hd0:=hd d List.mem_cons_self
  split at h
  · cases h
  · rename_i hn
    have e:(-9223372036854775808+d)= -(9223372036854775808 - d):=by omega
    rw[e,Int.neg_tdiv,Int.tdiv_eq_ediv_of_nonneg (by omega)] at hn
    exact fits_in l _ m (fun x hx=>hd x (List.mem_cons_of_mem _ hx)) (by omega) (by omega) h
theorem rbody_in (s:T) (b:Bool):In (rbody s b).1:=by
 unfold rbody
 have h0:In 0:=⟨by decide,by decide⟩
 split
 · exact h0
 · split
   · rename_i ha
     unfold toldM
     split
     · exact h0
     · rename_i n hf
       have:=fits_in (s.map digI) 0 n (fun d hd=>by
        obtain⟨c,hc,rfl⟩:=List.mem_map.1 hd
        have:=List.all_eq_true.1 ha c hc
        unfold isD at this
        simp only[Bool.and_eq_true,decide_eq_true_eq] at this
        unfold digI
        omega) (by decide) (by decide) hf
       unfold In
       split
       · exact⟨this.1,by show n≤_;omega⟩
       · split
         · exact h0
         · rename_i h3 h4
           have:n≠ -9223372036854775808:=fun e=>h4 (by rw[e];rfl)
           constructor
           · show -9223372036854775808≤ -n;omega
           · show -n≤9223372036854775807;omega
   · exact h0
theorem rp_in (w:T):In (rpM w).1:=by
 unfold rpM
 split
 · exact rbody_in _ _
 · exact rbody_in _ _
theorem in0 :In 0:=⟨by decide,by decide⟩
theorem record_in {o:Nat} {l:List T} {r:RecM} (h:recordM o l=some r):In64 r:=by
 unfold recordM at h
 split at h
 · split at h
   · cases h
   · split at h
     · split at h
       · split at h
         · cases h
           exact⟨pp_in _⟩
         · cases h
       · cases h
     · split at h
       · cases h
         exact⟨in0⟩
       · cases h
 · split at h
   · cases h
   · split at h
     · cases h
       exact⟨in0⟩
     · split at h
       · cases h
         exact⟨in0⟩
       · split at h
         · cases h
           exact⟨in0⟩
         · cases h
theorem nums_in :∀l:List T,∀n∈numsR l,In n
 |[],n,h=>by cases h
 |w::l,n,h=>by
  rw[numsR] at h
  split at h
  · rw[List.mem_cons] at h
    rcases h with rfl|h
    · exact rp_in w
    · exact nums_in l n h
  · exact nums_in l n h
theorem arg_in (l:List T):In (argR l):=by
 unfold argR
 cases h:(numsR l).getLast? with
 |none=>exact in0
 |some n=>exact nums_in l n (List.mem_of_getLast? h)
theorem guess_in {w:List T} {r:RecM} (h:r∈guesses w):In64 r:=by
 unfold guesses at h
 rw[List.mem_append,List.mem_flatten,List.mem_flatten] at h
 rcases h with ⟨L,hL,h⟩|⟨L,hL,h⟩
 · obtain⟨o, -,rfl⟩:=List.mem_map.1 hL
   unfold guessOp at h
   split at h
   · simp only[List.append_nil,List.mem_cons,List.not_mem_nil,or_false] at h
     rcases h with rfl|rfl<;>exact⟨in0⟩
   · simp only[List.mem_append,List.mem_cons,List.not_mem_nil,or_false] at h
     rcases h with (rfl|rfl)|rfl<;>exact⟨in0⟩
 · obtain⟨k, -,rfl⟩:=List.mem_map.1 hL
   unfold guessKind at h
   rw[List.mem_append] at h
   rcases h with h|h
   · split at h
     · rw[List.mem_singleton] at h
       rw[h]
       exact⟨in0⟩
     · cases h
   · rw[List.mem_singleton] at h
     rw[h]
     exact⟨arg_in _⟩
theorem lineP_in {nm:T→Bool} {t:T} {r:RecM} (h:lineP nm t=some r):In64 r:=by
 unfold lineP at h
 split at h
 · cases h
 · split at h
   · cases h
   · split at h
     · cases h
     · rename_i hr
       split at h
       · cases h
         exact record_in hr
       · cases h
theorem line_eq {nm:T→Bool} (hn:Nm nm) (t:T):lineP nm t=lineR nm t:=by
 have back:∀r,lineR nm t=some r→lineP nm t=some r:=fun r h=>by
  unfold lineR at h
  have h1:=List.find?_some h
  have h2:=List.mem_of_find?_eq_some h
  rw[Bool.and_eq_true,decide_eq_true_eq] at h1
  have:=lineP_text hn (guess_in h2) h1.1
  rw[h1.2] at this
  exact this
 cases hp:lineP nm t with
 |none=>
  cases hr:lineR nm t with
  |none=>rfl
  |some r=>rw[back r hr] at hp;cases hp
 |some r=>
  obtain⟨h1,h2⟩:=lineP_some hp
  have hg:=guess_words hn (lineP_in hp) (may_of h1)
  rw[←pieces_text hn h1,h2] at hg
  cases hr:lineR nm t with
  |none=>
   unfold lineR at hr
   have:=List.find?_eq_none.1 hr r hg
   exact absurd (by rw[h1,h2];simp) this
  |some r'=>
   have:=back r' hr
   rw[this] at hp
   exact hp.symm
def cutL :T→Option (T×T)
 |[]=>none
 |c::s=>if c=10 then some ([],s) else(cutL s).map fun x=>(c::x.1,x.2)
theorem cutL_len :∀(s:T) (x:T×T),cutL s=some x→s.length=x.1.length+1+x.2.length
 |[],x,h=>by cases h
 |c::s,x,h=>by
  rw[cutL] at h
  split at h
  · cases h
    simp only[List.length_nil,List.length_cons]
    omega
  · obtain⟨y,hy,rfl⟩:=Option.map_eq_some_iff.1 h
    have:=cutL_len s y hy
    simp only[List.length_cons]
    omega
def readAll (g:T→Option RecM):Nat→T→Nat→List RecM→List RecM×Nat×Int
 |0,_,at_,acc=>([],at_,320)
 |f+1,s,at_,acc=>if s=[] then(acc,0,0) else match cutL s with
  |none=>([],at_,320)
  |some (t,r)=>match g t with
   |none=>([],at_,320)
   |some x=>readAll g f r (at_+t.length+1) (acc++[x])
def getM (g:T→Option RecM) (s:T):List RecM×Nat×Int:=if 1048576<s.length then([],0,3) else readAll g (s.length+1) s 0 []
theorem getM_eq {nm:T→Bool} (hn:Nm nm) (s:T):getM (lineP nm) s=getM (lineR nm) s:=by
 rw[show lineP nm=lineR nm from funext fun t=>line_eq hn t]
end Go.Proofs.YtpjodoipceddpaaGreatDoor.Rc
namespace Go.Proofs.YtpjodoipceddpaaGreatDoor.Rc
open Go.Lib
theorem index_nil (c:UInt8):index [] [c]= -1:=by simp[index]
theorem index_eq (c:UInt8) (l:T):index (c::l) [c]=0:=by rw[index];simp[List.isPrefixOf]
theorem index_ne {b c:UInt8} (l:T) (h:b≠c):index (b::l) [c]=if index l [c]= -1 then -1 else index l [c]+1:=by
 have hp:([c]:List UInt8).isPrefixOf (b::l)=false:=by simp[List.isPrefixOf,Ne.symm h]
 rw[index,hp]
 simp
theorem split_pieces :∀s:T,split s [32]=pieces s
 |[]=>by
  unfold split
  rw[count_miss (index_nil 32)]
  rfl
 |b::s=>by
  have ih:=split_pieces s
  unfold split at ih⊢
  rw[pieces]
  by_cases hb:b=32
  · subst hb
    rw[if_pos rfl,count_cons_eq,Nat.add_comm,splitK,index_eq,←ih]
    rfl
  · rw[if_neg hb,count_cons_ne b 32 s hb]
    by_cases hi:index s [32]= -1
    · rw[count_miss hi] at ih⊢
      rw[splitK] at ih⊢
      rw[←ih]
    · obtain⟨j,hj⟩:∃j:Nat,index s [32]=j:=⟨(index s [32]).toNat,by have:=index_ge s [32];omega⟩
      have hj2:index (b::s) [32]=((j+1:Nat):Int):=by rw[index_ne s hb,if_neg hi,hj];rfl
      rw[count_hit (by simp) hj,Nat.add_comm] at ih⊢
      rw[splitK,hj,if_neg (by rw[beq_iff_eq];omega)] at ih
      rw[splitK,hj2,if_neg (by rw[beq_iff_eq];omega),←ih]
      rfl
theorem cut_none :∀s:T,cutL s=none→cut s [10]=(s,[],false)∧index s [10]= -1
 |[],_=>by
  refine⟨?_,index_nil 10⟩
  unfold cut
  rw[index_nil,if_neg (by omega)]
 |b::s,h=>by
  rw[cutL] at h
  by_cases hb:b=10
  · rw[if_pos hb] at h;cases h
  · rw[if_neg hb,Option.map_eq_none_iff] at h
    have hi:index (b::s) [10]= -1:=by rw[index_ne s hb,if_pos (cut_none s h).2]
    refine⟨?_,hi⟩
    unfold cut
    rw[hi,if_neg (by omega)]
theorem cut_index :∀(s:T) (x:T×T),cutL s=some x→index s [10]=(x.1.length:Int)∧s=x.1++10::x.2
 |[],x,h=>by cases h
 |b::s,x,h=>by
  rw[cutL] at h
  by_cases hb:b=10
  · rw[if_pos hb] at h
    cases h
    subst hb
    exact⟨index_eq 10 s,rfl⟩
  · rw[if_neg hb] at h
    obtain⟨y,hy,rfl⟩:=Option.map_eq_some_iff.1 h
    obtain⟨h1,h2⟩:=cut_index s y hy
    refine⟨?_,by rw[h2];rfl⟩
    rw[index_ne s hb,h1,if_neg (by omega)]
    simp
theorem cut_some {s:T} {x:T×T} (h:cutL s=some x):cut s [10]=(x.1,x.2,true):=by
 obtain⟨h1,h2⟩:=cut_index s x h
 unfold cut
 rw[h1,if_pos (by omega),Int.toNat_natCast]
 refine Prod.ext ?_ (Prod.ext ?_ rfl)
 · show s.take _=_
   rw[h2]
   simp
 · show s.drop _=_
   rw[h2,List.length_singleton,List.drop_append]
   simp
end Go.Proofs.YtpjodoipceddpaaGreatDoor.Rc
namespace Go.Proofs.YtpjodoipceddpaaGreatDoor.Rc
open Go.Lib
def isL (c:UInt8):Bool:=decide (c.toNat=95)||(65≤c.toNat && c.toNat≤90)||(97≤c.toNat && c.toNat≤122)
def isLD (c:UInt8):Bool:=isL c||isD c
def kws :List T:=[[97,110,100],[100,105,118],[101,108,115,101],[101,109,105,116],[101,110,100,105,102],[102,97,108,115,101],[105,102],[105,109,112,108,105,101,115],[109,111,100],[110,111,116],[111,114],[116,104,101,110],[116,114,117,101],[120,111,114]]
def signs :List T:=[[58,61],[60,62],[60,61],[62,61],[60],[62],[61],[43],[45],[42],[40],[41],[44],[59]]
def wtext (ws:List T):T:=(ws.map (· ++[32])).flatten
theorem occ_kw {s:T} (hs:∀c∈s,c≠32):∀ws:List T,(∀w∈ws,∀c∈w,c≠32)→((∃i,occAt (32::wtext ws) (32::s++[32]) i=true)↔s∈ws)
 |[],_=>by
  constructor
  · rintro⟨i,h⟩
    have hr:=occAt_room h
    have:(32::s++[32]).length≤1:=by
     rcases hr with hr|hr
     · have e:(32::wtext []).length=1:=rfl
       omega
     · simp at hr
    simp at this
  · intro h
    cases h
 |w::ws,hw=>by
  have ih:=occ_kw hs ws (fun x hx=>hw x (List.mem_cons_of_mem _ hx))
  have hw0:=hw w List.mem_cons_self
  have e:wtext (w::ws)=w++32::wtext ws:=by
   unfold wtext
   simp
  have heq:∀(a b:T) (r:T),(∀c∈a,c≠32)→(∀c∈b,c≠32)→(a++[32]).isPrefixOf (b++32::r)=true→a=b:=by
   intro a
   induction a with
   |nil=>
    intro b r _ hb h
    cases b with
    |nil=>rfl
    |cons c b=>
     simp only[List.nil_append,List.cons_append,List.isPrefixOf,Bool.and_eq_true,beq_iff_eq] at h
     exact absurd h.1.symm (hb c List.mem_cons_self)
   |cons x a iha=>
    intro b r ha hb h
    cases b with
    |nil=>
     simp only[List.nil_append,List.cons_append,List.isPrefixOf,Bool.and_eq_true,beq_iff_eq] at h
     exact absurd h.1 (ha x List.mem_cons_self)
    |cons c b=>
     simp only[List.cons_append,List.isPrefixOf,Bool.and_eq_true,beq_iff_eq] at h
     rw[h.1,iha b r (fun y hy=>ha y (List.mem_cons_of_mem _ hy)) (fun y hy=>hb y (List.mem_cons_of_mem _ hy)) h.2]
  constructor
  · rintro⟨i,h⟩
    rw[e] at h
    cases i with
    |zero=>
     unfold occAt at h
     rw[List.drop_zero] at h
     simp only[List.cons_append,List.isPrefixOf,Bool.and_eq_true,beq_iff_eq] at h
     rw[heq s w _ hs hw0 h.2]
     exact List.mem_cons_self
    |succ i=>
     by_cases hi:i<w.length
     · have:=occAt_head (c:=32) (t:=s++[32]) rfl h
       rw[List.getElem?_cons_succ,List.getElem?_append_left hi,List.getElem?_eq_getElem hi] at this
       exact absurd (Option.some.inj this) (hw0 _ (List.getElem_mem hi))
     · refine List.mem_cons_of_mem _ (ih.1 ⟨i - w.length, ?_⟩)
       unfold occAt at h⊢
       rw[List.drop_succ_cons,List.drop_append,List.drop_of_length_le (by omega),List.nil_append] at h
       exact h
  · intro h
    rw[List.mem_cons] at h
    rw[e]
    rcases h with rfl|h
    · refine⟨0, ?_⟩
      unfold occAt
      rw[List.drop_zero,List.isPrefixOf_iff_prefix]
      exact⟨wtext ws,by simp⟩
    · obtain⟨i,hi⟩:=ih.2 h
      refine⟨i+w.length+1, ?_⟩
      unfold occAt at hi⊢
      rw[List.drop_succ_cons,List.drop_append,List.drop_of_length_le (by omega),List.nil_append,Nat.add_sub_cancel]
      exact hi
theorem contains_kw {s:T} (hs:∀c∈s,c≠32):contains (32::wtext kws) (32::s++[32])=decide (s∈kws):=by
 have hk:∀w∈kws,∀c∈w,c≠32:=by decide
 have h:=occ_kw hs kws hk
 unfold contains
 rcases index_spec (32::wtext kws) (32::s++[32]) with ⟨h1,h2⟩|⟨i,h1,h2,h3, -⟩
 · rw[h1,decide_eq_false (by omega)]
   refine(decide_eq_false fun hm=> ?_).symm
   obtain⟨i,hi⟩:=h.2 hm
   rcases occAt_room hi with hr|hr
   · have:=h2 i (by omega)
     rw[hi] at this
     cases this
   · simp at hr
 · rw[h1,decide_eq_true (by omega)]
   exact(decide_eq_true (h.1 ⟨i,h3⟩)).symm
def runM (p:UInt8→Bool) (s:T):Nat:=(s.takeWhile p).length
def firstM (s:T):Nat×Nat:=match s with
 |[]=>(0,0)
 |c::r=>if [45,45].isPrefixOf s then(0,0) else if isD c then(runM isD s,1) else if isL c then(runM isLD s,if contains (32::wtext kws) (32::s.take (runM isLD s)++[32]) then 3 else 2)
  else match signs.find? (·.isPrefixOf s) with
   |none=>(0,0)
   |some t=>(t.length,4)
def isM (s:T):Nat:=if(firstM s).1≠s.length∨64<(firstM s).1 then 0 else(firstM s).2
def nmB (s:T):Bool:=decide (s≠[]) && (s.head?.map isL).getD false && s.all isLD && !decide (s∈kws) && decide (s.length≤64)
theorem take_all {p:UInt8→Bool}:∀s:T,runM p s=s.length↔s.all p=true
 |[]=>by simp[runM]
 |c::s=>by
  have ih:=take_all (p:=p) s
  unfold runM at ih⊢
  rw[List.takeWhile_cons,List.all_cons]
  split
  · rename_i h
    rw[h,Bool.true_and,List.length_cons,List.length_cons,←ih]
    omega
  · rename_i h
    rw[List.length_nil,List.length_cons]
    constructor
    · intro h2;omega
    · intro h2
      rw[Bool.and_eq_true] at h2
      exact absurd h2.1 h
theorem isLD_ne32 {c:UInt8} (h:isLD c=true):c≠32:=by
 rintro rfl
 revert h
 decide
theorem isL_neD {c:UInt8} (h:isL c=true):isD c=false:=by
 unfold isL at h
 unfold isD
 simp only[Bool.or_eq_true,Bool.and_eq_true,decide_eq_true_eq] at h
 rw[Bool.and_eq_false_iff,decide_eq_false_iff_not,decide_eq_false_iff_not]
 omega
theorem isM_nm (s:T):(isM s==2)=nmB s:=by
 cases s with
 |nil=>rfl
 |cons c r=>
  by_cases hl:isL c=true
  · have h45:[45,45].isPrefixOf (c::r)=false:=by
     rw[List.isPrefixOf]
     have:((45:UInt8)==c)=false:=by
      rw[beq_eq_false_iff_ne]
      rintro rfl
      revert hl
      decide
     rw[this,Bool.false_and]
    have hf:firstM (c::r)=(runM isLD (c::r),if contains (32::wtext kws) (32::(c::r).take (runM isLD (c::r))++[32]) then 3 else 2):=by
     unfold firstM
     simp only
     rw[if_neg (by rw[h45];simp),if_neg (by rw[isL_neD hl];simp),if_pos hl]
    unfold isM nmB
    rw[hf]
    simp only[List.head?_cons,Option.map_some,Option.getD_some]
    rw[hl,decide_eq_true (show c::r≠[] by simp),Bool.true_and,Bool.true_and]
    by_cases ha:(c::r).all isLD=true
    · have hr:=(take_all (c::r)).2 ha
      rw[hr,List.take_length,contains_kw (fun x hx=>isLD_ne32 (List.all_eq_true.1 ha x hx)),ha,Bool.true_and]
      by_cases h64:64<(c::r).length
      · rw[if_pos (.inr h64),decide_eq_false (show ¬(c::r).length≤64 by omega),Bool.and_false]
        rfl
      · rw[if_neg (fun h=>h.elim (fun h=>h rfl) h64),decide_eq_true (show (c::r).length≤64 by omega),Bool.and_true]
        by_cases hk:(c::r)∈kws
        · rw[decide_eq_true hk];rfl
        · rw[decide_eq_false hk];rfl
    · have hr:¬runM isLD (c::r)=(c::r).length:=fun h=>ha ((take_all _).1 h)
      have ha':(c::r).all isLD=false:=by simpa using ha
      rw[if_pos (.inl hr),ha']
      rfl
  · have hl':isL c=false:=by simpa using hl
    have hr:nmB (c::r)=false:=by
     unfold nmB
     simp only[List.head?_cons,Option.map_some,Option.getD_some]
     rw[hl']
     simp
    have h2:(firstM (c::r)).2≠2:=by
     unfold firstM
     simp only
     split
     · simp
     · split
       · simp
       · split<;>simp
    rw[hr]
    unfold isM
    split
    · rfl
    · exact beq_eq_false_iff_ne.2 h2
def wholeM (s:T):Nat:=if s∈signs then 4 else if s∈kws then 3 else if s=[] then 0 else if s.all isD then 1 else if(s.head?.map isL).getD false && s.all isLD then 2 else 0
def isR (s:T):Nat:=if 64<s.length then 0 else wholeM s
theorem isR_nm (s:T):(isR s==2)=nmB s:=by
 unfold isR nmB wholeM
 by_cases h64:64<s.length
 · rw[if_pos h64,decide_eq_false (show ¬s.length≤64 by omega),Bool.and_false]
   rfl
 · rw[if_neg h64,decide_eq_true (show s.length≤64 by omega),Bool.and_true]
   by_cases hs:s∈signs
   · rw[if_pos hs]
     have:∀t∈signs,((4:Nat)==2)=(decide (t≠[]) && (t.head?.map isL).getD false && t.all isLD && !decide (t∈kws)):=by decide
     exact this s hs
   rw[if_neg hs]
   by_cases hk:s∈kws
   · rw[if_pos hk,decide_eq_true hk]
     simp
   rw[if_neg hk,decide_eq_false hk]
   by_cases hn:s=[]
   · subst hn;rfl
   rw[if_neg hn,decide_eq_true hn]
   by_cases hd:s.all isD=true
   · rw[if_pos hd]
     have:(s.head?.map isL).getD false=false:=by
      cases s with
      |nil=>exact absurd rfl hn
      |cons c r=>
       rw[List.all_cons,Bool.and_eq_true] at hd
       show isL c=false
       cases h:isL c
       · rfl
       · rw[isL_neD h] at hd
         cases hd.1
     rw[this]
     rfl
   rw[if_neg hd]
   simp only[Bool.true_and,Bool.not_false,Bool.and_true]
   cases (s.head?.map isL).getD false && s.all isLD<;>rfl
theorem nmOk :Nm nmB where
 ne:=fun t h=>by
  unfold nmB at h
  simp only[Bool.and_eq_true,decide_eq_true_eq] at h
  exact h.1.1.1.1
 ok:=fun t h=>by
  unfold nmB at h
  simp only[Bool.and_eq_true,decide_eq_true_eq] at h
  intro c hc
  exact isLD_ne32 (List.all_eq_true.1 h.1.1.2 c hc)
end Go.Proofs.YtpjodoipceddpaaGreatDoor.Rc
namespace Go.Proofs.YtpjodoipceddpaaGreatDoor.Rc
open Go.Lib
def stepP (L:List T) (c:UInt8):List T:=if c=32 then L++[[]] else L.set (L.length - 1) (L.getD (L.length - 1) []++[c])
theorem parts_fold :∀(s:T) (init:List T) (x:T),s.foldl stepP (init++[x])=init++(match pieces s with
 |p::ps=>(x++p)::ps
 |[]=>[])
 |[],init,x=>by simp[pieces]
 |c::s,init,x=>by
  obtain⟨p,ps,hp⟩:=List.exists_cons_of_ne_nil (pieces_ne s)
  rw[List.foldl_cons]
  by_cases hc:c=32
  · rw[show stepP (init++[x]) c=init++[x]++[[]] from if_pos hc,parts_fold s (init++[x]) [],pieces,if_pos hc,hp]
    simp
  · have e1:(init++[x]).length - 1=init.length:=by simp
    have e2:(init++[x]).getD init.length []=x:=by simp[List.getD_eq_getElem?_getD]
    have e3:(init++[x]).set init.length (x++[c])=init++[x++[c]]:=by
     rw[List.set_append_right _ _ (Nat.le_refl _),Nat.sub_self]
     rfl
    have e4:stepP (init++[x]) c=init++[x++[c]]:=by
     unfold stepP
     rw[if_neg hc,e1,e2,e3]
    rw[e4,parts_fold s init (x++[c]),pieces,if_neg hc,hp]
    simp
theorem parts_pieces (s:T):s.foldl stepP [[]]=pieces s:=by
 have:=parts_fold s [] []
 rw[List.nil_append] at this
 rw[this]
 obtain⟨p,ps,hp⟩:=List.exists_cons_of_ne_nil (pieces_ne s)
 rw[hp]
 rfl
end Go.Proofs.YtpjodoipceddpaaGreatDoor.Rc
