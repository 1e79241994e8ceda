/- Records as text, in plain Lean: numbers that are written, and read. -/
import Derived.Lib.ItoaNum
import Derived.Lib.ParseIntB
import Derived.Lib.SplitLaws
import Derived.Lib.Join
namespace Go.Proofs.YtpjodoipceddpaaGreatDoor.Rc
open Go.Lib
abbrev T :=List UInt8
def isD (c:UInt8):Bool:=48≤c.toNat && c.toNat≤57
theorem dig_toNat {d:Nat} (h:d<10):(UInt8.ofNat (48+d)).toNat=48+d:=by
 rw[UInt8.toNat_ofNat']
 omega
theorem dec_all :∀u:Nat,∀c∈decDigits u,∃d,d<10∧c=UInt8.ofNat (48+d):=by
 intro u
 induction u using Nat.strongRecOn with
 |_ u ih=>
  intro c hc
  rw[decDigits] at hc
  split at hc
  · rename_i h
    rw[List.mem_singleton] at hc
    exact⟨u,h,hc⟩
  · rename_i h
    rw[List.mem_append,List.mem_singleton] at hc
    rcases hc with hc|hc
    · exact ih (u / 10) (by omega) c hc
    · exact⟨u % 10,by omega,hc⟩
theorem dec_ne (u:Nat):decDigits u≠[]:=by
 intro h
 have:=decDigits_length u
 have h2:=nDigits_pos u
 rw[h] at this
 simp at this
 omega
theorem dec_head :∀u:Nat,0<u→∃d r,decDigits u=UInt8.ofNat (48+d)::r∧0<d∧d<10:=by
 intro u
 induction u using Nat.strongRecOn with
 |_ u ih=>
  intro hu
  rw[decDigits]
  split
  · rename_i h
    exact⟨u,[],rfl,hu,h⟩
  · rename_i h
    obtain⟨d,r,h1,h2,h3⟩:=ih (u / 10) (by omega) (by omega)
    exact⟨d,r++[UInt8.ofNat (48+u % 10)],by rw[h1];rfl,h2,h3⟩
theorem itoa_all (n:Int):∀c∈itoa n,c.toNat=45∨(48≤c.toNat∧c.toNat≤57):=by
 intro c hc
 unfold itoa at hc
 split at hc
 · rw[List.mem_cons] at hc
   rcases hc with rfl|hc
   · exact .inl rfl
   · obtain⟨d,hd,rfl⟩:=dec_all _ c hc
     rw[dig_toNat hd]
     exact .inr ⟨by omega,by omega⟩
 · obtain⟨d,hd,rfl⟩:=dec_all _ c hc
   rw[dig_toNat hd]
   exact .inr ⟨by omega,by omega⟩
theorem itoa_ne (n:Int):itoa n≠[]:=by
 unfold itoa
 split
 · simp
 · exact dec_ne _
theorem uint_dec (M:Nat) (hM:M≤18446744073709551615):∀(u acc:Nat) (r:T),acc*10 ^ nDigits u+u≤M→parseUintM M acc (decDigits u++r)=parseUintM M (acc*10 ^ nDigits u+u) r:=by
 intro u
 induction u using Nat.strongRecOn with
 |_ u ih=>
  intro acc r hb
  rw[decDigits]
  split
  · rename_i h
    rw[nDigits_small h] at hb⊢
    rw[List.singleton_append,parseUintM,dig_toNat h,if_pos (by omega),if_neg (by omega),if_neg (by omega),Nat.add_sub_cancel_left,Nat.pow_one]
  · rename_i h
    have hk:=nDigits_big h
    have e:acc*10 ^ nDigits u=acc*10 ^ nDigits (u / 10)*10:=by rw[hk,Nat.pow_succ,Nat.mul_assoc]
    rw[e] at hb⊢
    rw[List.append_assoc,ih (u / 10) (by omega) acc _ (by omega)]
    have hm:u % 10<10:=by omega
    rw[List.singleton_append,parseUintM,dig_toNat hm,if_pos (by omega),if_neg (by omega),if_neg (by omega),Nat.add_sub_cancel_left]
    congr 1
    omega
def dgs (s:T):T:=match s with
 |45::r=>r
 |_=>s
def wrB (s:T):Bool:=(dgs s).all isD && (decide (s=[48])||(decide (dgs s≠[]) && decide ((dgs s).head? ≠some 48)))
def ppM (s:T):Int×Int:=if wrB s then match parseIntB 64 s with
 |.ok v=>(v,0)
 |.range=>(0,60)
 |NumEnd.syntax=>(0,0)
 else(0,2)
theorem dgs_itoa (n:Int):dgs (itoa n)=decDigits n.natAbs:=by
 unfold itoa
 split
 · rfl
 · rename_i h
   have e:n.toNat=n.natAbs:=by omega
   rw[e]
   obtain⟨d,hd,he⟩:=dec_all n.natAbs _ (List.head_mem (dec_ne _))
   obtain⟨c,r,hc⟩:=List.exists_cons_of_ne_nil (dec_ne n.natAbs)
   rw[List.head_eq_iff_head?_eq_some,hc] at he
   simp only[List.head?_cons,Option.some.injEq] at he
   have:c≠45:=fun e2=>by
    have:=dig_toNat hd
    rw[←he,e2] at this
    have h45:(45:UInt8).toNat=45:=rfl
    omega
   rw[hc]
   unfold dgs
   split
   · rename_i r' h2
     cases h2
     exact absurd rfl this
   · rfl
theorem isD_dig {d:Nat} (h:d<10):isD (UInt8.ofNat (48+d))=true:=by
 unfold isD
 rw[dig_toNat h]
 simp
 omega
theorem wr_itoa (n:Int):wrB (itoa n)=true:=by
 unfold wrB
 rw[dgs_itoa,Bool.and_eq_true]
 refine⟨List.all_eq_true.2 fun c hc=> ?_, ?_⟩
 · obtain⟨d,hd,rfl⟩:=dec_all _ c hc
   exact isD_dig hd
 · by_cases h:n=0
   · subst h
     have:itoa 0=[48]:=by
      unfold itoa
      rw[if_neg (by omega)]
      exact decDigits_one (by omega)
     rw[this]
     rfl
   · obtain⟨d,r,h1,h2,h3⟩:=dec_head n.natAbs (by omega)
     rw[h1]
     have:UInt8.ofNat (48+d)≠48:=fun e=>by
      have:=dig_toNat h3
      rw[e] at this
      have h48:(48:UInt8).toNat=48:=rfl
      omega
     rw[Bool.or_eq_true]
     refine .inr ?_
     rw[decide_eq_true (show UInt8.ofNat (48+d)::r≠[] by simp),decide_eq_true (show (UInt8.ofNat (48+d)::r).head? ≠some 48 by rw[List.head?_cons];exact fun e=>this (Option.some.inj e))]
     rfl
theorem parse_itoa (n:Int) (h1: -9223372036854775808≤n) (h2:n≤9223372036854775807):parseIntB 64 (itoa n)=.ok n:=by
 have key:∀u:Nat,u≤9223372036854775808→parseUintB 64 (decDigits u)=.ok u:=fun u hu=>by
  unfold parseUintB
  rw[if_neg (dec_ne u)]
  have:=uint_dec (2 ^ 64 - 1) (by decide) u 0 [] (by omega)
  rw[List.append_nil] at this
  rw[this,Nat.zero_mul,Nat.zero_add]
  rfl
 obtain⟨c,r,hc⟩:=List.exists_cons_of_ne_nil (itoa_ne n)
 have hh:c.toNat=45↔n<0:=by
  unfold itoa at hc
  split at hc
  · rename_i h
    cases hc
    exact⟨fun _=>h,fun _=>rfl⟩
  · rename_i h
    have hm:c∈decDigits n.toNat:=by rw[hc];exact List.mem_cons_self
    obtain⟨d,hd,rfl⟩:=dec_all _ c hm
    rw[dig_toNat hd]
    omega
 have h43:c.toNat≠43:=fun e=>by
  have:=itoa_all n c (by rw[hc];exact List.mem_cons_self)
  omega
 have hd:=dgs_itoa n
 rw[hc]
 unfold parseIntB
 simp only
 by_cases hn:n<0
 · have hr:r=decDigits n.natAbs:=by
    have:=hc
    unfold itoa at this
    rw[if_pos hn] at this
    cases this
    rfl
   have h45:=hh.2 hn
   rw[if_pos (.inr h45),hr,key _ (by omega)]
   simp only[h45,not_true_eq_false,false_and,if_false,true_and,if_true]
   rw[if_neg (by omega)]
   congr 1
   omega
 · have h45:¬c.toNat=45:=fun e=>hn (hh.1 e)
   have hr:c::r=decDigits n.natAbs:=by
    rw[←hc]
    unfold itoa
    rw[if_neg hn]
    congr 1
    omega
   rw[if_neg (by simp[h43,h45]),hr,key _ (by omega)]
   simp only[h45,not_false_eq_true,true_and,false_and,if_false]
   rw[if_neg (by omega)]
   congr 1
   omega
theorem pp_itoa (n:Int) (h1: -9223372036854775808≤n) (h2:n≤9223372036854775807):ppM (itoa n)=(n,0):=by
 unfold ppM
 rw[if_pos (wr_itoa n),parse_itoa n h1 h2]
def fitsM :List Int→Int→Option Int
 |[],n=>some n
 |d::l,n=>if n<(-9223372036854775808+d).tdiv 10 then none else fitsM l (10*n - d)
def digI (c:UInt8):Int:=(c.toNat:Int) - 48
def toldM (l:List Int) (below:Bool):Int×Int:=match fitsM l 0 with
 |none=>(0,60)
 |some n=>if below||n==0 then(n,0) else if n== -9223372036854775808 then(0,60) else(-n,0)
def rbody (s:T) (below:Bool):Int×Int:=if s=[]∨(s.head? =some 48∧(1<s.length∨below=true)) then(0,2) else if s.all isD then toldM (s.map digI) below else(0,2)
def rpM (s:T):Int×Int:=match s with
 |45::r=>rbody r true
 |_=>rbody s false
theorem digI_dig {d:Nat} (h:d<10):digI (UInt8.ofNat (48+d))=d:=by
 unfold digI
 rw[dig_toNat h]
 omega
theorem tdiv_le {n d:Int} (hd:0≤d) (hd2:d<10) (h: -9223372036854775808≤10*n - d):¬n<(-9223372036854775808+d).tdiv 10:=by
 have e:(-9223372036854775808+d)= -(9223372036854775808 - d):=by omega
 rw[e,Int.neg_tdiv,Int.tdiv_eq_ediv_of_nonneg (by omega)]
 omega
theorem fits_dec :∀(u:Nat) (n:Int) (r:List Int), -9223372036854775808≤n*(10 ^ nDigits u:Nat) - u→n≤0→fitsM ((decDigits u).map digI++r) n=fitsM r (n*(10 ^ nDigits u:Nat) - u):=by
 intro u
 induction u using Nat.strongRecOn with
 |_ u ih=>
  intro n r hb hn
  rw[decDigits]
  split
  · rename_i h
    rw[nDigits_small h] at hb⊢
    rw[Nat.pow_one] at hb⊢
    rw[List.map_singleton,List.singleton_append,fitsM,digI_dig h,if_neg (tdiv_le (by omega) (by omega) (by omega))]
    congr 1
    omega
  · rename_i h
    have hk:=nDigits_big h
    have e:n*((10 ^ nDigits u:Nat):Int)=n*((10 ^ nDigits (u / 10):Nat):Int)*10:=by rw[hk,Nat.pow_succ,Int.natCast_mul,←Int.mul_assoc];rfl
    rw[e] at hb⊢
    have hm:u % 10<10:=by omega
    rw[List.map_append,List.append_assoc,ih (u / 10) (by omega) n _ (by omega) hn]
    rw[List.map_singleton,List.singleton_append,fitsM,digI_dig hm,if_neg (tdiv_le (by omega) (by omega) (by omega))]
    congr 1
    omega
theorem rbody_itoa (n:Int) (h1: -9223372036854775808≤n) (h2:n≤9223372036854775807):rbody (decDigits n.natAbs) (decide (n<0))=(n,0):=by
 unfold rbody
 have hc:¬(decDigits n.natAbs=[]∨((decDigits n.natAbs).head? =some 48∧(1<(decDigits n.natAbs).length∨decide (n<0)=true))):=by
  rintro(h|⟨h3,h4⟩)
  · exact dec_ne _ h
  · by_cases h0:n=0
    · subst h0
      have:decDigits (Int.natAbs 0)=[48]:=decDigits_one (by omega)
      rw[this] at h4
      simp at h4
    · obtain⟨d,r,g1,g2,g3⟩:=dec_head n.natAbs (by omega)
      rw[g1] at h3
      simp only[List.head?_cons,Option.some.injEq] at h3
      have:=dig_toNat g3
      rw[h3] at this
      have h48:(48:UInt8).toNat=48:=rfl
      omega
 have ha:(decDigits n.natAbs).all isD=true:=List.all_eq_true.2 fun c hc=>by
  obtain⟨d,hd,rfl⟩:=dec_all _ c hc
  exact isD_dig hd
 rw[if_neg hc,if_pos ha]
 unfold toldM
 have:=fits_dec n.natAbs 0 [] (by omega) (by omega)
 rw[List.append_nil] at this
 rw[this,fitsM]
 simp only[Int.zero_mul,Int.zero_sub]
 by_cases hn:n<0
 · have e: -(n.natAbs:Int)=n:=by omega
   rw[e]
   simp[hn]
 · by_cases h0:n=0
   · subst h0
     rfl
   · have e:((-(n.natAbs:Int))==0)=false:=by rw[beq_eq_false_iff_ne];omega
     have e2:((-(n.natAbs:Int))== -9223372036854775808)=false:=by rw[beq_eq_false_iff_ne];omega
     have e3:decide (n<0)=false:=decide_eq_false hn
     rw[e,e2,e3]
     simp
     omega
theorem rp_itoa (n:Int) (h1: -9223372036854775808≤n) (h2:n≤9223372036854775807):rpM (itoa n)=(n,0):=by
 have hb:=rbody_itoa n h1 h2
 by_cases hn:n<0
 · have e:itoa n=45::decDigits n.natAbs:=by unfold itoa;rw[if_pos hn]
   rw[e]
   show rbody _ true=_
   rw[decide_eq_true hn] at hb
   exact hb
 · have hd:=dgs_itoa n
   have e:itoa n=decDigits n.natAbs:=by
    unfold itoa
    rw[if_neg hn]
    congr 1
    omega
   rw[e] at hd⊢
   rw[decide_eq_false hn] at hb
   unfold rpM
   split
   · rename_i r h2
     rw[h2] at hd
     unfold dgs at hd
     simp at hd
   · exact hb
def digs (u:Nat):List Nat:=if h:u=0 then [] else u % 10::digs (u / 10)
termination_by u
decreasing_by omega
theorem digs_zero :digs 0=[]:=by rw[digs,dif_pos rfl]
theorem digs_pos {u:Nat} (h:0<u):digs u=u % 10::digs (u / 10):=by rw[digs,dif_neg (by omega)]
theorem dec_digs :∀u:Nat,0<u→decDigits u=((digs u).map fun d=>UInt8.ofNat (48+d)).reverse:=by
 intro u
 induction u using Nat.strongRecOn with
 |_ u ih=>
  intro hu
  rw[decDigits,digs_pos hu]
  split
  · rename_i h
    rw[show u / 10=0 by omega,digs_zero,Nat.mod_eq_of_lt h]
    rfl
  · rename_i h
    rw[ih (u / 10) (by omega) (by omega),List.map_cons,List.reverse_cons]
def putM (n:Int):T:=if digs n.natAbs=[] then [48] else if n<0 then 45::((digs n.natAbs).map fun d=>UInt8.ofNat (48+d)).reverse else((digs n.natAbs).map fun d=>UInt8.ofNat (48+d)).reverse
theorem put_itoa (n:Int):putM n=itoa n:=by
 unfold putM
 by_cases h0:n=0
 · subst h0
   rw[show Int.natAbs 0=0 from rfl,digs_zero,if_pos rfl]
   unfold itoa
   rw[if_neg (by omega)]
   exact(decDigits_one (i:=0) (by omega)).symm
 · have hne:digs n.natAbs≠[]:=by rw[digs_pos (by omega)];simp
   rw[if_neg hne,←dec_digs _ (by omega)]
   unfold itoa
   split
   · rfl
   · congr 1
     omega
end Go.Proofs.YtpjodoipceddpaaGreatDoor.Rc
namespace Go.Proofs.YtpjodoipceddpaaGreatDoor.Rc
open Go.Lib
structure RecM where
 op:Nat
 at_:Int
 name:T
 arg:Int
 list:List Int
def opW :Nat→T
 |3=>[101,120,105,116]
 |4=>[101,102,102,101,99,116]
 |5=>[101,110,116,101,114]
 |6=>[108,111,111,107]
 |7=>[111,118,101,114]
 |8=>[101,118,101,110,116]
 |9=>[102,105,114,101]
 |10=>[100,101,102,101,114]
 |11=>[100,114,111,112]
 |12=>[114,101,115,116]
 |13=>[102,97,117,108,116]
 |_=>[]
def kindW (k:Int):T:=if k=1 then [100,111,110,101] else if k=2 then [99,97,108,108] else if k=3 then [116,105,109,101] else []
def opOf (w:T):Option Nat:=((List.range 11).map (· +3)).find? fun o=>opW o=w
def kindOf (w:T):Int:=if w=kindW 1 then 1 else if w=kindW 2 then 2 else if w=kindW 3 then 3 else 0
def place (n:Int):Bool:=decide (0≤n) && decide (n<4096)
def allN (p:Nat→Bool) (i:Nat):Nat→Bool
 |0=>true
 |k+1=>p i && allN p (i+1) k
theorem allN_at {p:Nat→Bool}:∀(k i:Nat),allN p i k=true→∀j,i≤j→j<i+k→p j=true
 |0,i,_,j,h1,h2=>by omega
 |k+1,i,h,j,h1,h2=>by
  rw[allN,Bool.and_eq_true] at h
  by_cases e:j=i
  · rw[e];exact h.1
  · exact allN_at k (i+1) h.2 j (by omega) (by omega)
def risAt (l:List Int) (i:Nat):Bool:=place (l.getD i 0) && (decide (i=0)||decide (l.getD (i - 1) 0<l.getD i 0))
def rising (l:List Int):Bool:=allN (risAt l) 0 l.length && decide (0<l.length)
def restAt (n:Int):Bool:=decide (-1≤n) && decide (n<512)
def rests (l:List Int):Bool:=l.all restAt && decide (0<l.length) && decide (l.length≤512)
def mayB (nm:T→Bool) (r:RecM):Bool:=
 if r.op=8 then decide (r.list.length=1) && (if r.list.getD 0 0=2 then decide (r.at_=0) && nm r.name else(decide (r.list.getD 0 0=1)||decide (r.list.getD 0 0=3)) && place r.at_ && decide (r.name=[]) && decide (r.arg=0))
 else decide (r.name=[]) && decide (r.arg=0) &&
  (if r.op=3∨r.op=4∨r.op=5∨r.op=7 then place r.at_ && decide (r.list=[])
  else if r.op=6 then place r.at_ && (decide (r.list=[])||(decide (r.list.length=1) && place (r.list.getD 0 0)))
  else if r.op=9 then decide (r.at_=0) && rising r.list
  else if r.op=10∨r.op=11 then decide (r.at_=0) && decide (r.list=[])
  else if r.op=12 then decide (r.at_=0) && rests r.list
  else if r.op=13 then decide (0<r.at_) && decide (r.at_≤999) && decide (r.list=[])
  else false)
def wordsM (r:RecM):List T:=opW r.op::
 (if r.op=8 then kindW (r.list.getD 0 0)::(if r.name≠[] then [r.name,itoa r.arg] else [itoa r.at_])
 else if r.op=9∨r.op=12 then r.list.map itoa
 else if r.op=10∨r.op=11 then []
 else itoa r.at_::r.list.map itoa)
def textM (r:RecM):T:=join (wordsM r) [32]
def pieces :T→List T
 |[]=>[[]]
 |c::s=>if c=32 then []::pieces s else match pieces s with
  |[]=>[[c]]
  |x::l=>(c::x)::l
theorem pieces_ne (s:T):pieces s≠[]:=by
 cases s with
 |nil=>simp[pieces]
 |cons c s=>
  rw[pieces]
  split
  · simp
  · split<;>simp
theorem pieces_app {x:T} (h:∀c∈x,c≠32) (s:T):pieces (x++32::s)=x::pieces s:=by
 induction x with
 |nil=>rw[List.nil_append,pieces,if_pos rfl]
 |cons c x ih=>
  rw[List.cons_append,pieces,if_neg (h c List.mem_cons_self),ih (fun c hc=>h c (List.mem_cons_of_mem _ hc))]
theorem pieces_one {x:T} (h:∀c∈x,c≠32):pieces x=[x]:=by
 induction x with
 |nil=>rfl
 |cons c x ih=>
  rw[pieces,if_neg (h c List.mem_cons_self),ih (fun c hc=>h c (List.mem_cons_of_mem _ hc))]
theorem pieces_join :∀(l:List T) (x:T),(∀y∈x::l,∀c∈y,c≠32)→pieces (join (x::l) [32])=x::l
 |[],x,h=>by rw[join_one];exact pieces_one (h x List.mem_cons_self)
 |y::l,x,h=>by
  have e:join (x::y::l) [32]=x++32::join (y::l) [32]:=by
   rw[join_cons,join_cons,joinTail,joinTail]
   simp
  rw[e,pieces_app (h x List.mem_cons_self),pieces_join l y fun z hz=>h z (List.mem_cons_of_mem _ hz)]
def readM :List T→Option (List Int)
 |[]=>some []
 |w::l=>if(ppM w).2=0 then(readM l).map ((ppM w).1::·) else none
def recordM (op:Nat) (l:List T):Option RecM:=
 if op=8 then match l with
  |[]=>none
  |k::l=>if kindOf k=2 then match l with
    |[n,a]=>if(ppM a).2=0 then some ⟨8,0,n,(ppM a).1,[2]⟩ else none
    |_=>none
   else match readM l with
    |some [a]=>some ⟨8,a,[],0,[kindOf k]⟩
    |_=>none
 else match readM l with
  |none=>none
  |some n=>if op=9∨op=12 then some ⟨op,0,[],0,n⟩ else match n with
   |a::n=>some ⟨op,a,[],0,n⟩
   |[]=>if op=10∨op=11 then some ⟨op,0,[],0,[]⟩ else none
def lineP (nm:T→Bool) (t:T):Option RecM:=match pieces t with
 |[]=>none
 |w::l=>match opOf w with
  |none=>none
  |some op=>match recordM op l with
   |none=>none
   |some r=>if mayB nm r=true∧textM r=t then some r else none
def numsR :List T→List Int
 |[]=>[]
 |w::l=>if(rpM w).2=0 then(rpM w).1::numsR l else numsR l
def argR (l:List T):Int:=(numsR l).getLast?.getD 0
def guessOp (nums:List Int) (op:Nat):List RecM:=[⟨op,0,[],0,nums⟩,⟨op,0,[],0,[]⟩]++(match nums with
 |[]=>[]
 |a::n=>[⟨op,a,[],0,n⟩])
def guessKind (nums:List Int) (name:T) (arg:Int) (k:Int):List RecM:=(match nums with
 |[a]=>[⟨8,a,[],0,[k]⟩]
 |_=>[])++[⟨8,0,name,arg,[k]⟩]
def nameR (w:List T):T:=if 2<w.length then w.getD 2 [] else []
def guesses (w:List T):List RecM:=(((List.range 11).map (· +3)).map (guessOp (numsR (w.drop 1)))).flatten++(([1,2,3]:List Int).map (guessKind (numsR (w.drop 1)) (nameR w) (argR (w.drop 1)))).flatten
def lineR (nm:T→Bool) (t:T):Option RecM:=(guesses (pieces t)).find? fun r=>mayB nm r && decide (textM r=t)
structure Nm (nm:T→Bool):Prop where
 ne:∀t,nm t=true→t≠[]
 ok:∀t,nm t=true→∀c∈t,c≠32
structure In64 (r:RecM):Prop where
 a: -9223372036854775808≤r.arg∧r.arg≤9223372036854775807
theorem itoa_no32 (n:Int):∀c∈itoa n,c≠32:=fun c hc e=>by
 have:=itoa_all n c hc
 subst e
 have h32:(32:UInt8).toNat=32:=rfl
 omega
theorem opW_no32 (o:Nat):∀c∈opW o,c≠32:=by
 unfold opW
 split<;>decide
theorem kindW_no32 (k:Int):∀c∈kindW k,c≠32:=by
 unfold kindW
 split
 · decide
 · split
   · decide
   · split<;>decide
theorem words_no32 {nm:T→Bool} (hn:Nm nm) {r:RecM} (hm:mayB nm r=true):∀y∈wordsM r,∀c∈y,c≠32:=by
 have hmap:∀y∈r.list.map itoa,∀c∈y,c≠32:=fun y hy=>by
  obtain⟨n, -,rfl⟩:=List.mem_map.1 hy
  exact itoa_no32 n
 intro y hy
 unfold wordsM at hy
 rw[List.mem_cons] at hy
 rcases hy with rfl|hy
 · exact opW_no32 _
 by_cases h8:r.op=8
 · rw[if_pos h8,List.mem_cons] at hy
   rcases hy with rfl|hy
   · exact kindW_no32 _
   by_cases hz:r.name≠[]
   · rw[if_pos hz] at hy
     have hnm:nm r.name=true:=by
      unfold mayB at hm
      rw[if_pos h8,Bool.and_eq_true] at hm
      have:=hm.2
      split at this
      · rw[Bool.and_eq_true] at this
        exact this.2
      · simp only[Bool.and_eq_true,decide_eq_true_eq] at this
        exact absurd this.1.2 hz
     simp only[List.mem_cons,List.not_mem_nil,or_false] at hy
     rcases hy with rfl|rfl
     · exact hn.ok _ hnm
     · exact itoa_no32 _
   · rw[if_neg hz,List.mem_singleton] at hy
     rw[hy]
     exact itoa_no32 _
 rw[if_neg h8] at hy
 by_cases h9:r.op=9∨r.op=12
 · rw[if_pos h9] at hy
   exact hmap y hy
 rw[if_neg h9] at hy
 by_cases h10:r.op=10∨r.op=11
 · rw[if_pos h10] at hy
   cases hy
 rw[if_neg h10,List.mem_cons] at hy
 rcases hy with rfl|hy
 · exact itoa_no32 _
 · exact hmap y hy
theorem pieces_text {nm:T→Bool} (hn:Nm nm) {r:RecM} (hm:mayB nm r=true):pieces (textM r)=wordsM r:=by
 unfold textM wordsM
 exact pieces_join _ _ (by
  have:=words_no32 hn hm
  unfold wordsM at this
  exact this)
def Fit (l:List Int):Prop:=∀n∈l, -9223372036854775808≤n∧n≤9223372036854775807
theorem read_map :∀l:List Int,Fit l→readM (l.map itoa)=some l
 |[],_=>rfl
 |n::l,h=>by
  have hn:=h n List.mem_cons_self
  rw[List.map_cons,readM,pp_itoa n hn.1 hn.2,if_pos rfl,read_map l fun x hx=>h x (List.mem_cons_of_mem _ hx)]
  rfl
theorem nums_map :∀l:List Int,Fit l→numsR (l.map itoa)=l
 |[],_=>rfl
 |n::l,h=>by
  have hn:=h n List.mem_cons_self
  rw[List.map_cons,numsR,rp_itoa n hn.1 hn.2,if_pos rfl,nums_map l fun x hx=>h x (List.mem_cons_of_mem _ hx)]
theorem place_fit {n:Int} (h:place n=true): -9223372036854775808≤n∧n≤9223372036854775807:=by
 unfold place at h
 simp only[Bool.and_eq_true,decide_eq_true_eq] at h
 omega
theorem rising_fit {l:List Int} (h:rising l=true):Fit l:=by
 unfold rising at h
 rw[Bool.and_eq_true] at h
 intro n hn
 obtain⟨i,hi,rfl⟩:=List.getElem_of_mem hn
 have:=allN_at _ _ h.1 i (Nat.zero_le _) (by omega)
 unfold risAt at this
 rw[Bool.and_eq_true,List.getD_eq_getElem?_getD,List.getElem?_eq_getElem hi] at this
 exact place_fit this.1
theorem rests_fit {l:List Int} (h:rests l=true):Fit l:=by
 unfold rests at h
 rw[Bool.and_eq_true,Bool.and_eq_true,List.all_eq_true] at h
 intro n hn
 have:=h.1.1 n hn
 unfold restAt at this
 simp only[Bool.and_eq_true,decide_eq_true_eq] at this
 omega
theorem opOf_opW {o:Nat} (h1:3≤o) (h2:o≤13):opOf (opW o)=some o:=by
 have:o=3∨o=4∨o=5∨o=6∨o=7∨o=8∨o=9∨o=10∨o=11∨o=12∨o=13:=by omega
 rcases this with rfl|rfl|rfl|rfl|rfl|rfl|rfl|rfl|rfl|rfl|rfl<;>decide
inductive May (nm:T→Bool):RecM→Prop
 |call (n:T) (a:Int):nm n=true→May nm ⟨8,0,n,a,[2]⟩
 |event (k a:Int):k=1∨k=3→place a=true→May nm ⟨8,a,[],0,[k]⟩
 |plain (o:Nat) (a:Int) (l:List Int):o=3∨o=4∨o=5∨o=6∨o=7∨o=13→Fit (a::l)→May nm ⟨o,a,[],0,l⟩
 |list (o:Nat) (l:List Int):o=9∨o=12→Fit l→May nm ⟨o,0,[],0,l⟩
 |bare (o:Nat):o=10∨o=11→May nm ⟨o,0,[],0,[]⟩
theorem may_of {nm:T→Bool} {r:RecM} (h:mayB nm r=true):May nm r:=by
 obtain⟨o,a,n,g,l⟩:=r
 unfold mayB at h
 simp only at h
 have hnil:∀a:Int, -9223372036854775808≤a∧a≤9223372036854775807→Fit [a]:=fun a ha x hx=>by
  rw[List.mem_singleton] at hx
  rw[hx]
  exact ha
 by_cases h8:o=8
 · subst h8
   rw[if_pos rfl,Bool.and_eq_true,decide_eq_true_eq] at h
   obtain⟨h1,h⟩:=h
   obtain⟨k,rfl⟩:=List.length_eq_one_iff.1 h1
   simp only[List.getD_cons_zero] at h
   by_cases h2:k=2
   · subst h2
     rw[if_pos rfl,Bool.and_eq_true,decide_eq_true_eq] at h
     obtain⟨rfl,h⟩:=h
     exact .call n g h
   · rw[if_neg h2] at h
     simp only[Bool.and_eq_true,Bool.or_eq_true,decide_eq_true_eq] at h
     obtain⟨⟨⟨h3,h4⟩,rfl⟩,rfl⟩:=h
     exact .event k a h3 h4
 rw[if_neg h8,Bool.and_eq_true,Bool.and_eq_true,decide_eq_true_eq,decide_eq_true_eq] at h
 obtain⟨⟨rfl,rfl⟩,h⟩:=h
 split at h
 · rename_i ho
   simp only[Bool.and_eq_true,decide_eq_true_eq] at h
   obtain⟨h1,rfl⟩:=h
   exact .plain o a [] (by omega) (hnil a (place_fit h1))
 split at h
 · rename_i ho
   subst ho
   simp only[Bool.and_eq_true,Bool.or_eq_true,decide_eq_true_eq] at h
   obtain⟨h1,h2|⟨h2,h3⟩⟩:=h
   · subst h2
     exact .plain 6 a [] (by omega) (hnil a (place_fit h1))
   · obtain⟨k,rfl⟩:=List.length_eq_one_iff.1 h2
     refine .plain 6 a [k] (by omega) fun x hx=> ?_
     simp only[List.mem_cons,List.not_mem_nil,or_false] at hx
     rcases hx with rfl|rfl
     · exact place_fit h1
     · exact place_fit h3
 split at h
 · rename_i ho
   subst ho
   simp only[Bool.and_eq_true,decide_eq_true_eq] at h
   obtain⟨rfl,h⟩:=h
   exact .list 9 l (.inl rfl) (rising_fit h)
 split at h
 · rename_i ho
   simp only[Bool.and_eq_true,decide_eq_true_eq] at h
   obtain⟨rfl,rfl⟩:=h
   exact .bare o ho
 split at h
 · rename_i ho
   subst ho
   simp only[Bool.and_eq_true,decide_eq_true_eq] at h
   obtain⟨rfl,h⟩:=h
   exact .list 12 l (.inr rfl) (rests_fit h)
 split at h
 · rename_i ho
   subst ho
   simp only[Bool.and_eq_true,decide_eq_true_eq] at h
   obtain⟨⟨h1,h2⟩,rfl⟩:=h
   exact .plain 13 a [] (by omega) (hnil a (by omega))
 · cases h
theorem May.op {nm:T→Bool} {r:RecM} (h:May nm r):3≤r.op∧r.op≤13:=by
 cases h<;>(simp only;omega)
theorem record_words {nm:T→Bool} (hn:Nm nm) {r:RecM} (h64:In64 r) (h:May nm r):recordM r.op ((wordsM r).drop 1)=some r:=by
 cases h with
 |call n a hnm=>
  have h:=h64.a
  unfold wordsM recordM
  simp only[List.drop_succ_cons,List.drop_zero,if_true,List.getD_cons_zero]
  rw[if_pos (hn.ne n hnm)]
  simp only[show kindOf (kindW 2)=2 by decide,if_true,pp_itoa a h.1 h.2]
 |event k a hk ha=>
  have h:=place_fit ha
  have hkk:kindOf (kindW k)=k:=by rcases hk with rfl|rfl<;>decide
  unfold wordsM recordM
  simp only[List.drop_succ_cons,List.drop_zero,if_true,List.getD_cons_zero]
  rw[if_neg (show ¬(([]:T)≠[]) by simp),hkk,if_neg (show ¬k=2 by omega),readM,pp_itoa a h.1 h.2,readM]
  rfl
 |plain o a l ho hf=>
  have e:(wordsM ⟨o,a,[],0,l⟩).drop 1=(a::l).map itoa:=by
   unfold wordsM
   simp only[List.drop_succ_cons,List.drop_zero]
   rw[if_neg (by omega),if_neg (by omega),if_neg (by omega)]
   rfl
  rw[e]
  unfold recordM
  simp only
  rw[if_neg (by omega),read_map _ hf]
  simp only
  rw[if_neg (by omega)]
 |list o l ho hf=>
  have e:(wordsM ⟨o,0,[],0,l⟩).drop 1=l.map itoa:=by
   unfold wordsM
   simp only[List.drop_succ_cons,List.drop_zero]
   rw[if_neg (by omega),if_pos ho]
  rw[e]
  unfold recordM
  simp only
  rw[if_neg (by omega),read_map _ hf]
  simp only
  rw[if_pos ho]
 |bare o ho=>
  have e:(wordsM ⟨o,0,[],0,[]⟩).drop 1=[]:=by
   unfold wordsM
   simp only[List.drop_succ_cons,List.drop_zero]
   rw[if_neg (by omega),if_neg (by omega),if_pos ho]
  rw[e]
  unfold recordM
  simp only
  rw[if_neg (by omega),readM]
  simp only
  rw[if_neg (by omega),if_pos ho]
theorem guess_words {nm:T→Bool} (hn:Nm nm) {r:RecM} (h64:In64 r) (h:May nm r):r∈guesses (wordsM r):=by
 have hop:∀(o:Nat) (w:List T) (r:RecM),3≤o→o≤13→r∈guessOp (numsR (w.drop 1)) o→r∈guesses w:=fun o w r h1 h2 h3=>by
  unfold guesses
  refine List.mem_append.2 (.inl (List.mem_flatten.2 ⟨_,List.mem_map.2 ⟨o,List.mem_map.2 ⟨o - 3,List.mem_range.2 (by omega),by omega⟩,rfl⟩,h3⟩))
 have hki:∀(k:Int) (w:List T) (r:RecM),k∈([1,2,3]:List Int)→r∈guessKind (numsR (w.drop 1)) (nameR w) (argR (w.drop 1)) k→r∈guesses w:=fun k w r h1 h3=>by
  unfold guesses
  exact List.mem_append.2 (.inr (List.mem_flatten.2 ⟨_,List.mem_map.2 ⟨k,h1,rfl⟩,h3⟩))
 cases h with
 |call n a hnm=>
  have h:=h64.a
  refine hki 2 _ _ (by simp) ?_
  have e:wordsM ⟨8,0,n,a,[2]⟩=[opW 8,kindW 2,n,itoa a]:=by
   unfold wordsM
   simp only[List.getD_cons_zero,if_true]
   rw[if_pos (hn.ne n hnm)]
  rw[e]
  unfold guessKind
  refine List.mem_append.2 (.inr ?_)
  have e1:nameR [opW 8,kindW 2,n,itoa a]=n:=rfl
  have e2:argR (List.drop 1 [opW 8,kindW 2,n,itoa a])=a:=by
   unfold argR
   have:∀x:List T,(numsR (x++[itoa a])).getLast? =some a:=fun x=>by
    induction x with
    |nil=>rw[List.nil_append,numsR,rp_itoa a h.1 h.2,if_pos rfl];rfl
    |cons y x ih=>
     rw[List.cons_append,numsR]
     split
     · rw[List.getLast?_cons,ih];rfl
     · exact ih
   have:=this [kindW 2,n]
   rw[show List.drop 1 [opW 8,kindW 2,n,itoa a]=[kindW 2,n]++[itoa a] from rfl,this]
   rfl
  rw[e1,e2]
  exact List.mem_singleton.2 rfl
 |event k a hk ha=>
  have h:=place_fit ha
  refine hki k _ _ (by rcases hk with rfl|rfl<;>simp) ?_
  have e:wordsM ⟨8,a,[],0,[k]⟩=[opW 8,kindW k,itoa a]:=by
   unfold wordsM
   simp only[List.getD_cons_zero,if_true]
   rw[if_neg (show ¬(([]:T)≠[]) by simp)]
  rw[e]
  have e2:numsR (List.drop 1 [opW 8,kindW k,itoa a])=[a]:=by
   have hk2:(rpM (kindW k)).2≠0:=by rcases hk with rfl|rfl<;>decide
   rw[List.drop_succ_cons,List.drop_zero,numsR,if_neg hk2,numsR,rp_itoa a h.1 h.2,if_pos rfl,numsR]
  rw[e2]
  unfold guessKind
  exact List.mem_append.2 (.inl (List.mem_singleton.2 rfl))
 |plain o a l ho hf=>
  have e:(wordsM ⟨o,a,[],0,l⟩).drop 1=(a::l).map itoa:=by
   unfold wordsM
   simp only[List.drop_succ_cons,List.drop_zero]
   rw[if_neg (by omega),if_neg (by omega),if_neg (by omega)]
   rfl
  refine hop o _ _ (by omega) (by omega) ?_
  rw[e,nums_map _ hf]
  unfold guessOp
  exact List.mem_append.2 (.inr (List.mem_singleton.2 rfl))
 |list o l ho hf=>
  have e:(wordsM ⟨o,0,[],0,l⟩).drop 1=l.map itoa:=by
   unfold wordsM
   simp only[List.drop_succ_cons,List.drop_zero]
   rw[if_neg (by omega),if_pos ho]
  refine hop o _ _ (by omega) (by omega) ?_
  rw[e,nums_map _ hf]
  unfold guessOp
  exact List.mem_append.2 (.inl List.mem_cons_self)
 |bare o ho=>
  refine hop o _ _ (by omega) (by omega) ?_
  unfold guessOp
  exact List.mem_append.2 (.inl (List.mem_cons_of_mem _ List.mem_cons_self))
theorem lineP_text {nm:T→Bool} (hn:Nm nm) {r:RecM} (h64:In64 r) (h:mayB nm r=true):lineP nm (textM r)=some r:=by
 have hm:=may_of h
 unfold lineP
 rw[pieces_text hn h]
 have hr:=record_words hn h64 hm
 unfold wordsM at hr⊢
 simp only[List.drop_succ_cons,List.drop_zero] at hr
 simp only[opOf_opW hm.op.1 hm.op.2,hr,h,true_and,if_true]
theorem lineP_some {nm:T→Bool} {t:T} {r:RecM} (h:lineP nm t=some r):mayB nm r=true∧textM r=t:=by
 unfold lineP at h
 split at h
 · cases h
 · split at h
   · cases h
   · split at h
     · cases h
     · split at h
       · rename_i hc
         cases h
         exact hc
       · cases h
end Go.Proofs.YtpjodoipceddpaaGreatDoor.Rc
