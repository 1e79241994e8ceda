/- the reference's entity layer: begins, digit, number, Reference, Decode, Encode. -/
import Derived.Test.YtnlacmnoocigiaaGreatDoorEnt4a
import Derived.Test.YtnlacmnoocigiaaGreatDoorEntBc
import Derived.Test.YtnlacmnoocigiaaGreatDoorTreNo
import Derived.Test.YtnlacmnoocigiaaGreatDoorTrkAll
import Derived.Deep.MidRow
import Derived.Test.YtnlacmnoocigiaaGreatDoorTreGt
import Derived.Test.YtnlacmnoocigiaaGreatDoorBaseSt
import Derived.Orders
namespace Go.Proofs.YtnlacmnoocigiaaGreatDoor
open Go.RowKit Go.Lib
attribute [local go_sem ↓] Go.wp_at_zero Go.wp_at_succ
theorem zam (a b:ByteArray):(a++b).data.toList=a.data.toList++b.data.toList:=by simp
theorem z9h (s t:ByteArray)(w:World)(hs:s.size≤1000000)(ht:t.size≤1000000):Calls Tryz.prog 97 #[.string s,.string t] w fun e w'=>e=.returned (.bool (hasPrefix s.data.toList t.data.toList))∧w=w':=by
 rw[←hasPrefix_raw];by_cases h:t.size≤s.size
 · have hi:(t.size:Int)≤s.size:=by omega
   rw[decide_eq_true h,Bool.true_and];go_enter Tryz.func97,Tryz.ntmps97;go_wp2;go_ret;exact⟨rfl,rfl⟩
 · have hi:¬(t.size:Int)≤s.size:=by omega
   rw[decide_eq_false h,Bool.false_and];go_enter Tryz.func97,Tryz.ntmps97;go_wp2;go_ret;exact⟨rfl,rfl⟩
set_option maxHeartbeats 2000000 in
theorem zgc (b:UInt8)(w:World):Calls Tryz.prog 131 #[.int .u8 (b.toNat:Int)] w fun e w'=>e=.returned (.int .i64 (digV b))∧w=w':=by
 have hb:=UInt8.toNat_lt b;unfold digV;by_cases h1:48≤b.toNat∧b.toNat≤57
 · rw[if_pos h1];have a1:(48:Int)≤b.toNat:=by omega
   have a2:(b.toNat:Int)≤57:=by omega
   clear h1;go_enter Tryz.func131,Tryz.ntmps131;go_wp2;go_ret;exact⟨rfl,rfl⟩
 · rw[if_neg h1];by_cases h2:97≤b.toNat∧b.toNat≤102
   · rw[if_pos h2];have a1:(57:Int)<b.toNat:=by omega
     have a2:(97:Int)≤b.toNat:=by omega
     have a3:(b.toNat:Int)≤102:=by omega
     clear h1 h2;go_enter Tryz.func131,Tryz.ntmps131;go_wp2;go_ret;refine⟨?_,rfl⟩;show Ending.returned (.int .i64 ((b.toNat:Int) - 97+10))=_;congr 2;omega
   · rw[if_neg h2];by_cases h3:65≤b.toNat∧b.toNat≤70
     · rw[if_pos h3];have a1:(57:Int)<b.toNat:=by omega
       have a2:(b.toNat:Int)<97:=by omega
       have a3:(65:Int)≤b.toNat:=by omega
       have a4:(b.toNat:Int)≤70:=by omega
       clear h1 h2 h3;go_enter Tryz.func131,Tryz.ntmps131;go_wp2;go_ret;refine⟨?_,rfl⟩;show Ending.returned (.int .i64 ((b.toNat:Int) - 65+10))=_;congr 2;omega
     · rw[if_neg h3];have hc:((b.toNat:Int)<48)∨((57:Int)<b.toNat∧(b.toNat:Int)<65)∨((57:Int)<b.toNat∧(b.toNat:Int)<97∧(70:Int)<b.toNat)∨((57:Int)<b.toNat∧(102:Int)<b.toNat):=by omega
       clear h1 h2 h3;rcases hc with a1|⟨a1,a2⟩|⟨a1,a2,a3⟩|⟨a1,a2⟩
       all_goals
        go_enter Tryz.func131,Tryz.ntmps131;go_wp2;go_ret;exact⟨rfl,rfl⟩
theorem zwa (b:UInt8): -1≤digV b∧digV b<16:=by
 unfold digV
 repeat' split
 all_goals omega
theorem zp0 {a b:UInt8}(h:a≠b):¬(a.toNat:Int)=b.toNat:=fun e=>h (UInt8.toNat_inj.1 (by omega))
set_option maxRecDepth 100000 in
set_option maxHeartbeats 4000000 in
theorem zbq (base:Int)(most:Nat)(hb:base=10∨base=16)(hm:most≤7)(t:ByteArray)(w:World)(hts:t.size≤1000000):
 Calls Tryz.prog 98 #[.string t,.int .i64 base,.int .i64 most] w fun e w'=>e=.returned (.tuple #[.string ⟨(numR base most t.data.toList).1.toArray⟩,.int .i64 (numR base most t.data.toList).2])∧Fr (fun _=>False) w w':=by
 have hl:t.data.toList.length=t.size:=rfl;have hbb:10≤base∧base≤16:=by omega
 obtain⟨hb0,hb1⟩:=hbb;obtain⟨R,hR⟩:∃R,numR base most t.data.toList=R:=⟨_,rfl⟩;rw[hR];have HR:=hide hR;clear hR;go_enter Tryz.func98,Tryz.ntmps98;go_wp2_with fail;go_loopw [8,9] (fun n i wr=>∃(a:Int) (k:Nat),n=.int .i64 a∧i=.int .i64 k∧k≤most∧k≤t.size∧0≤a∧w=wr∧Hid (a<16 ^ k∧z1z base most t.data.toList=k+z1z base (most - k) (t.data.toList.drop k)∧valL base (t.data.toList.take (z1z base most t.data.toList)) 0=valL base ((t.data.toList.drop k).take (z1z base (most - k) (t.data.toList.drop k))) a)) (fun _ i _=>most - (Go.RowKit.intOf i).toNat)
 case atStart=>exact⟨0,0,rfl,rfl,by omega,by omega,by omega,rfl,by decide,by simp,by simp⟩
 case round=>
  obtain⟨a,k,rfl,rfl,hkm,hkt,ha,rfl,hh⟩:=hrel
  have hpow:(16:Int) ^ k≤268435456:=by
   have h3:∀k,k≤7→(16:Int) ^ k≤268435456:=by
    intro k hk
    match k,hk with
    |0,_=>decide
    |1,_=>decide
    |2,_=>decide
    |3,_=>decide
    |4,_=>decide
    |5,_=>decide
    |6,_=>decide
    |7,_=>decide
   exact h3 k (by omega)
  have ha2:a<268435456:=by have:=hh.out.1;omega
  clear hpow;have hout:z1z base (most - k) (t.data.toList.drop k)=0→z1z base most t.data.toList=k∧valL base (t.data.toList.take k) 0=a:=fun h0=>by have h2:=hh.out.2;rw[h0] at h2;refine⟨h2.1, ?_⟩;have h3:=h2.2;rw[h2.1] at h3;simpa [valL] using h3
  have HO:=hide hout;clear hout;have hend:z1z base (most - k) (t.data.toList.drop k)=0→R=if k=0∨t.data.toList[k]? ≠some 59 then([],0) else(putL a,k):=fun h0=>by obtain⟨h1,h2⟩:=HO.out h0;rw[←HR.out];unfold numR;rw[h1,h2]
  have HE:=hide hend;clear hend;by_cases hkk:k<t.size
  · have hki:(k:Int)<(t.size:Int):=by omega
    have hcons:t.data.toList.drop k=t[k]'hkk::t.data.toList.drop (k+1):=by rw[List.drop_eq_getElem_cons (by omega)];rfl
    have hget:t.data.toList[k]? =some (t[k]'hkk):=data_getElem? t k hkk;obtain⟨hd1,hd2⟩:=zwa (t[k]'hkk);by_cases hdig:k<most∧digB base (t[k]'hkk)=true
    · obtain⟨hkmo,hdig⟩:=hdig;have hdd:=hdig;simp only[digB,decide_eq_true_eq] at hdd;obtain⟨d0,d1⟩:=hdd;have hkmi:(k:Int)<(most:Int):=by omega
      have HD:=hide (zgc (t[k]'hkk))
      have hspan:z1z base (most - k) (t.data.toList.drop k)=z1z base (most - (k+1)) (t.data.toList.drop (k+1))+1:=by
       rw[hcons,show most - k=(most - (k+1))+1 by omega]
       conv=>lhs;unfold z1z
       rw[if_pos hdig]
      have hnew:a*base+digV (t[k]'hkk)<16 ^ (k+1)∧z1z base most t.data.toList=k+1+z1z base (most - (k+1)) (t.data.toList.drop (k+1))∧valL base (t.data.toList.take (z1z base most t.data.toList)) 0=valL base ((t.data.toList.drop (k+1)).take (z1z base (most - (k+1)) (t.data.toList.drop (k+1)))) (a*base+digV (t[k]'hkk)):=by
       obtain⟨h1,h2,h3⟩:=hh.out;refine⟨?_,by rw[h2,hspan];omega, ?_⟩
       · rw[Int.pow_succ];rcases hb with rfl|rfl<;>omega
       · rw[h3,hspan,hcons,List.take_succ_cons];rfl
      have HN:=hide hnew;have hmul:a*base≤a*16:=Int.mul_le_mul_of_nonneg_left hb1 ha;have hmul0:0≤a*base:=Int.mul_nonneg ha (by omega);have e1:IntKind.i64.wrap (a*base)=a*base:=IntWalk.i64_in _ (by omega);clear hnew hspan hdig hcons hget;generalize digV (t[k]'hkk)=d at*;have e2:IntKind.i64.wrap (a*base+d)=a*base+d:=IntWalk.i64_in _ (by omega);have hn0:0≤a*base+d:=by omega
      clear hmul hmul0;go_wp2_with (go_at_call 131;refine(HD.out _).mono ?_;rintro e w1 ⟨rfl,rfl⟩);go_roundw
      case rel=>exact⟨a*base+d,k+1,rfl,by go_num,by omega,by omega,hn0,by trivial,HN.out⟩
      case measure=>simp[Go.RowKit.intOf];omega
    · have hz:z1z base (most - k) (t.data.toList.drop k)=0:=by
       rw[hcons]
       cases hmk:most - k with
       |zero=>rfl
       |succ m=>unfold z1z;rw[if_neg (fun h=>hdig ⟨by omega,h⟩)]
      have hres:=HE.out hz;rw[hget] at hres;have HD:=hide (zgc (t[k]'hkk))
      have hcs:¬k<most∨(k<most∧digV (t[k]'hkk)<0)∨(k<most∧0≤digV (t[k]'hkk)∧base≤digV (t[k]'hkk)):=by
       by_cases h1:k<most
       · right;by_cases h2:digV (t[k]'hkk)<0
         · exact .inl ⟨h1,h2⟩
         · refine .inr ⟨h1,by omega, ?_⟩;have h3:¬digB base (t[k]'hkk)=true:=fun h=>hdig ⟨h1,h⟩;simp only[digB,decide_eq_true_eq] at h3;omega
       · exact .inl h1
      have HP:=hide (zjw a);clear hz hcons hget hdig;generalize digV (t[k]'hkk)=d at*;by_cases hk0:k=0
      · subst hk0;rw[if_pos (.inl rfl)] at hres;subst hres;rcases hcs with h1|⟨h1,h2⟩|⟨h1,h2,h3⟩
        · have h1:¬(0:Int)<(most:Int):=by omega
          go_wp2_with (go_at_call 131;refine(HD.out _).mono ?_;rintro e w1 ⟨rfl,rfl⟩)
          go_ret2
          exact⟨rfl,Fr.refl _ _⟩
        · have h1:(0:Int)<(most:Int):=by omega
          go_wp2_with (go_at_call 131;refine(HD.out _).mono ?_;rintro e w1 ⟨rfl,rfl⟩)
          go_ret2
          exact⟨rfl,Fr.refl _ _⟩
        · have h1:(0:Int)<(most:Int):=by omega
          go_wp2_with (go_at_call 131;refine(HD.out _).mono ?_;rintro e w1 ⟨rfl,rfl⟩)
          go_ret2
          exact⟨rfl,Fr.refl _ _⟩
      · have hkb:((k:Int)==0)=false:=by simp;omega
        by_cases h59:t[k]'hkk=59
        · rw[if_neg (by rw[h59];simp[hk0])] at hres;subst hres;have hb59:(((t[k]'hkk).toNat:Int) !=59)=false:=by rw[h59];rfl
          clear h59 hk0;rcases hcs with h1|⟨h1,h2⟩|⟨h1,h2,h3⟩
          · have h1:¬(k:Int)<(most:Int):=by omega
            go_wp2_with (first
             |(go_at_call 131;refine(HD.out _).mono ?_;rintro e w1 ⟨rfl,rfl⟩)
             |(go_at_call 96;refine(HP.out _).mono ?_;rintro e w2 ⟨rfl,f2⟩))
            go_ret2
            exact⟨rfl,f2⟩
          · have h1:(k:Int)<(most:Int):=by omega
            go_wp2_with (first
             |(go_at_call 131;refine(HD.out _).mono ?_;rintro e w1 ⟨rfl,rfl⟩)
             |(go_at_call 96;refine(HP.out _).mono ?_;rintro e w2 ⟨rfl,f2⟩))
            go_ret2
            exact⟨rfl,f2⟩
          · have h1:(k:Int)<(most:Int):=by omega
            go_wp2_with (first
             |(go_at_call 131;refine(HD.out _).mono ?_;rintro e w1 ⟨rfl,rfl⟩)
             |(go_at_call 96;refine(HP.out _).mono ?_;rintro e w2 ⟨rfl,f2⟩))
            go_ret2
            exact⟨rfl,f2⟩
        · rw[if_pos (.inr (by simp[h59]))] at hres;subst hres;have hb59:(((t[k]'hkk).toNat:Int) !=59)=true:=by have:=zp0 h59;simpa using this
          clear h59 hk0;rcases hcs with h1|⟨h1,h2⟩|⟨h1,h2,h3⟩
          · have h1:¬(k:Int)<(most:Int):=by omega
            go_wp2_with (go_at_call 131;refine(HD.out _).mono ?_;rintro e w1 ⟨rfl,rfl⟩)
            go_ret2
            exact⟨rfl,Fr.refl _ _⟩
          · have h1:(k:Int)<(most:Int):=by omega
            go_wp2_with (go_at_call 131;refine(HD.out _).mono ?_;rintro e w1 ⟨rfl,rfl⟩)
            go_ret2
            exact⟨rfl,Fr.refl _ _⟩
          · have h1:(k:Int)<(most:Int):=by omega
            go_wp2_with (go_at_call 131;refine(HD.out _).mono ?_;rintro e w1 ⟨rfl,rfl⟩)
            go_ret2
            exact⟨rfl,Fr.refl _ _⟩
  · obtain rfl:k=t.size:=by omega
    have hres:=HE.out (by rw[List.drop_of_length_le (by omega)];cases most - t.size<;>rfl);rw[if_pos (.inr (by rw[List.getElem?_eq_none (by omega)];simp))] at hres;subst hres;clear HO HE hh;by_cases hk0:t.size=0
    · have hkb:((t.size:Int)==0)=true:=by rw[hk0];rfl
      go_wp2_with fail
      go_ret2
      exact⟨rfl,Fr.refl _ _⟩
    · have hkb:((t.size:Int)==0)=false:=by rw[beq_eq_false_iff_ne];omega
      go_wp2_with fail
      go_ret2
      exact⟨rfl,Fr.refl _ _⟩
theorem zda {α:Type}(q:α→Bool):∀(l:List α) (i:Nat) (p:α),l[i]? =some p→q p=true→(∀x∈l.take i,q x=false)→l.find? q=some p
 |[],i,p,h,_,_=>by simp at h
 |x::l,0,p,h,hq,_=>by simp only[List.getElem?_cons_zero,Option.some.injEq] at h;subst h;rw[List.find?_cons,hq]
 |x::l,i+1,p,h,hq,hn=>by rw[List.find?_cons,hn x (by simp)];exact zda q l i p (by simpa using h) hq (fun y hy=>hn y (by simp[hy]))
def zii (l:List UInt8)(p:List UInt8×List UInt8):Bool:=hasPrefix l (38::(p.1++[59]))
theorem zt4 (i:Nat)(h:i<5):∃p:List UInt8×List UInt8,nameL[i]? =some p∧p.1.length≤4∧(⟨#[38,60,62,34,39]⟩:ByteArray).extract i (i+1)=⟨p.2.toArray⟩∧
 #[Value.string ⟨#[38,97,109,112,59]⟩,.string ⟨#[38,108,116,59]⟩,.string ⟨#[38,103,116,59]⟩,.string ⟨#[38,113,117,111,116,59]⟩,.string ⟨#[38,97,112,111,115,59]⟩][i]? =some (.string ⟨(38::(p.1++[59])).toArray⟩):=by
 match i,h with
 |0,_=>exact⟨_,rfl,by decide,by decide,rfl⟩
 |1,_=>exact⟨_,rfl,by decide,by decide,rfl⟩
 |2,_=>exact⟨_,rfl,by decide,by decide,rfl⟩
 |3,_=>exact⟨_,rfl,by decide,by decide,rfl⟩
 |4,_=>exact⟨_,rfl,by decide,by decide,rfl⟩
theorem zp1 (l:List UInt8):(z7l l).2.1≤l.length∧(z7l l).2.2≤3:=by
 have hn:∀b m (l:List UInt8),(numR b m l).2≤l.length:=fun b m l=>by
  unfold numR;split
  · simp
  · exact(zjy b m l).2
 unfold z7l;split
 · have:=hn 16 6 (l.drop 3);rw[List.length_drop] at this;exact⟨by simp only;omega,by simp⟩
 · split
   · have:=hn 10 7 (l.drop 2);rw[List.length_drop] at this;exact⟨by simp only;omega,by simp⟩
   · simp
set_option maxRecDepth 100000 in
set_option maxHeartbeats 4000000 in
theorem zco (s:ByteArray)(w:World)(hs:s.size≤100000):
 Calls Tryz.prog 67 #[.string s] w fun e w'=>e=.returned (.tuple #[.string ⟨(refP s.data.toList).1.toArray⟩,.int .i64 (refP s.data.toList).2])∧Fr (fun _=>False) w w':=by
 have hl:s.data.toList.length=s.size:=rfl;rw[←zvx];obtain⟨R,hR⟩:∃R,refR s.data.toList=R:=⟨_,rfl⟩;rw[hR];have HR:=hide hR;clear hR;have HB0:=hide (heap_alloc_new w (.cells #[.string ⟨#[38,97,109,112,59]⟩,.string ⟨#[38,108,116,59]⟩,.string ⟨#[38,103,116,59]⟩,.string ⟨#[38,113,117,111,116,59]⟩,.string ⟨#[38,97,112,111,115,59]⟩] 9));go_enter Tryz.func67,Tryz.ntmps67;go_wp2_with fail;go_loopw [5] (fun i wr=>∃k:Nat,k≤5∧i=.int .i64 k∧Hid (wr.heap[w.heap.size]? =some (.cells #[.string ⟨#[38,97,109,112,59]⟩,.string ⟨#[38,108,116,59]⟩,.string ⟨#[38,103,116,59]⟩,.string ⟨#[38,113,117,111,116,59]⟩,.string ⟨#[38,97,112,111,115,59]⟩] 9 (0,0)))∧Hid (Fr (fun _=>False) w wr)∧Hid (∀x∈nameL.take k,zii s.data.toList x=false)) (fun i _=>5 - (Go.RowKit.intOf i).toNat)
 case atStart=>exact⟨0,by omega,rfl,HB0.out,Fr.alloc (Fr.refl _ _) _,fun x hx=>absurd hx (by simp)⟩
 case round=>
  obtain⟨k,hk,rfl,hb,hfr,hno⟩:=hrel;by_cases hk5:k<5
  · obtain⟨p,p1,p2,p3,p4⟩:=zt4 k hk5;have hcell:wr.cell? ⟨w.heap.size,k,none⟩=some (.string ⟨(38::(p.1++[59])).toArray⟩):=by rw[cell_of_row _ w.heap.size k _ _ _ hb.out];exact p4
    have hki:(k:Int)<5:=by omega
    have hpz:(⟨(38::(p.1++[59])).toArray⟩:ByteArray).size=p.1.length+2:=by show (38::(p.1++[59])).toArray.size=_;simp
    have HBG:=z9h s ⟨(38::(p.1++[59])).toArray⟩ wr (by omega) (by rw[hpz];omega);simp only at HBG;obtain⟨P,hP⟩:∃P:ByteArray,(⟨(38::(p.1++[59])).toArray⟩:ByteArray)=P:=⟨_,rfl⟩;rw[hP] at hcell HBG hpz;have hsl:∀W:World,(Instr.slice 9 (.string ⟨#[38,60,62,34,39]⟩) (some (.int .i64 (k:Int))) (some (.int .i64 ((k:Int)+1))) none).run Tryz.prog W=.ok (.string ⟨p.2.toArray⟩) W:=fun W=>by rw[run_slice_string (P:=Tryz.prog) W 9 _ .i64 .i64 k (k+1) Tryz.underlying9 (by omega) (by omega) (by show (k:Int)+1≤5;omega)];rw[show ((k:Int)).toNat=k by omega,show ((k:Int)+1).toNat=k+1 by omega,p3]
    have ek:IntKind.i64.wrap ((k:Int)+1)=(k:Int)+1:=IntWalk.i64_in _ (by omega);have hkz:(0:Int)≤k:=by omega
    cases hq:zii s.data.toList p with
    |true=>
     have hres:=HR.out;unfold refR at hres;rw[show nameL.find? (fun p=>hasPrefix s.data.toList (38::(p.1++[59])))=some p from zda (zii s.data.toList) nameL k p p1 hq hno.out] at hres;simp only at hres;unfold zii at hq;rw[hq] at HBG;have HBG:=hide HBG;subst hres;clear hq p1 p3 p4 hP;go_wp2_with (go_at_call 97;refine HBG.out.mono ?_;rintro e w1 ⟨rfl,rfl⟩);go_region;go_wp2_with fail
     go_ret2
     exact⟨rfl,hfr.out.drew⟩
    |false=>
     have HN:=hide (show ∀x∈nameL.take (k+1),zii s.data.toList x=false by
      intro x hx;rw[List.take_add_one,p1,Option.toList_some,List.mem_append,List.mem_singleton] at hx;rcases hx with hx|rfl
      · exact hno.out x hx
      · exact hq)
     unfold zii at hq;rw[hq] at HBG;have HBG:=hide HBG;clear hq p1 p3 p4 hP hsl;go_wp2_with (go_at_call 97;refine HBG.out.mono ?_;rintro e w1 ⟨rfl,rfl⟩);go_roundw
     case rel=>exact⟨k+1,by omega,by go_num,hb.out,hfr.out,HN.out⟩
     case measure=>simp[Go.RowKit.intOf];omega
  · obtain rfl:k=5:=by omega
    have hres:=HR.out;unfold refR at hres;rw[show nameL.find? (fun p=>hasPrefix s.data.toList (38::(p.1++[59])))=none from List.find?_eq_none.2 (fun x hx=>by have:=hno.out x hx;unfold zii at this;simp[this])] at hres;simp only at hres;have hhl:=zp1 s.data.toList;have HX:=z9h s ⟨#[38,35,120]⟩ wr (by omega) (by show (3:Nat)≤_;omega);have HD:=z9h s ⟨#[38,35]⟩ wr (by omega) (by show (2:Nat)≤_;omega);simp only at HX HD
    have hne:∀l:List UInt8,l≠[]→(⟨l.toArray⟩:ByteArray).toList.isEmpty=false∧¬(⟨l.toArray⟩:ByteArray).toList=[]:=fun l h=>by
     have:1≤(⟨l.toArray⟩:ByteArray).size:=by show 1≤l.toArray.size;rw[List.size_toArray];exact List.length_pos_iff.2 h
     exact⟨z2c this,z6d this⟩
    have HNE:=hide hne;clear hne
    cases hx:hasPrefix s.data.toList [38,35,120] with
    |true=>
     have hlen3:3≤s.size:=by have:=(List.isPrefixOf_iff_prefix.1 hx).length_le;simp only[List.length_cons,List.length_nil] at this;omega
     have hext:(s.extract 3 s.size).data.toList=s.data.toList.drop 3:=extract_to_end s 3;have hsz:(s.extract 3 s.size).size≤1000000:=by have:(s.extract 3 s.size).data.toList.length=(s.extract 3 s.size).size:=rfl;rw[hext,List.length_drop] at this;omega
     have HN:=zbq 16 6 (by decide) (by omega) (s.extract 3 s.size) wr hsz;rw[hext] at HN;simp only[Int.cast_ofNat_Int] at HN;have hh:z7l s.data.toList=((numR 16 6 (s.data.toList.drop 3)).1,(numR 16 6 (s.data.toList.drop 3)).2,3):=by unfold z7l;rw[if_pos hx]
     rw[hx] at HX;rw[hh] at hres hhl;simp only at hres hhl;have HX:=hide HX;have HN:=hide HN;clear hx hh hext hsz HD;generalize (numR 16 6 (s.data.toList.drop 3)).1=c at*;generalize (numR 16 6 (s.data.toList.drop 3)).2=j at*;by_cases hc:c=[]
     · rw[if_pos hc] at hres;subst hres;subst hc
       go_wp2_with (first
        |(go_at_call 97;go_fit HX.out;rintro e w1 ⟨rfl,rfl⟩)
        |(go_at_call 98;refine HN.out.mono ?_;rintro e w2 ⟨rfl,f2⟩))
       go_ret2
       exact⟨rfl,hfr.out.trans f2⟩
     · rw[if_neg hc] at hres;subst hres;obtain⟨hE,hE2⟩:=HNE.out c hc
       have hcE:c.isEmpty=false:=by
        cases c with
        |nil=>exact absurd rfl hc
        |cons a b=>rfl
       go_wp2_with (first
        |(go_at_call 97;go_fit HX.out;rintro e w1 ⟨rfl,rfl⟩)
        |(go_at_call 98;refine HN.out.mono ?_;rintro e w2 ⟨rfl,f2⟩))
       go_ret2
       exact⟨rfl,hfr.out.trans f2⟩
    |false=>
     rw[hx] at HX
     cases hd:hasPrefix s.data.toList [38,35] with
     |true=>
      have hlen3:2≤s.size:=by have:=(List.isPrefixOf_iff_prefix.1 hd).length_le;simp only[List.length_cons,List.length_nil] at this;omega
      have hext:(s.extract 2 s.size).data.toList=s.data.toList.drop 2:=extract_to_end s 2;have hsz:(s.extract 2 s.size).size≤1000000:=by have:(s.extract 2 s.size).data.toList.length=(s.extract 2 s.size).size:=rfl;rw[hext,List.length_drop] at this;omega
      have HN:=zbq 10 7 (by decide) (by omega) (s.extract 2 s.size) wr hsz;rw[hext] at HN;simp only[Int.cast_ofNat_Int] at HN;have hh:z7l s.data.toList=((numR 10 7 (s.data.toList.drop 2)).1,(numR 10 7 (s.data.toList.drop 2)).2,2):=by unfold z7l;rw[if_neg (by rw[hx];decide),if_pos hd]
      rw[hd] at HD;rw[hh] at hres hhl;simp only at hres hhl;have HX:=hide HX;have HD:=hide HD;have HN:=hide HN;clear hx hd hh hext hsz;generalize (numR 10 7 (s.data.toList.drop 2)).1=c at*;generalize (numR 10 7 (s.data.toList.drop 2)).2=j at*;by_cases hc:c=[]
      · rw[if_pos hc] at hres;subst hres;subst hc
        go_wp2_with (first
         |(go_at_call 97;go_fit HX.out;rintro e w1 ⟨rfl,rfl⟩)
         |(go_at_call 97;go_fit HD.out;rintro e w1 ⟨rfl,rfl⟩)
         |(go_at_call 98;refine HN.out.mono ?_;rintro e w2 ⟨rfl,f2⟩))
        go_ret2
        exact⟨rfl,hfr.out.trans f2⟩
      · rw[if_neg hc] at hres;subst hres;obtain⟨hE,hE2⟩:=HNE.out c hc
        have hcE:c.isEmpty=false:=by
         cases c with
         |nil=>exact absurd rfl hc
         |cons a b=>rfl
        go_wp2_with (first
         |(go_at_call 97;go_fit HX.out;rintro e w1 ⟨rfl,rfl⟩)
         |(go_at_call 97;go_fit HD.out;rintro e w1 ⟨rfl,rfl⟩)
         |(go_at_call 98;refine HN.out.mono ?_;rintro e w2 ⟨rfl,f2⟩))
        go_ret2
        exact⟨rfl,hfr.out.trans f2⟩
     |false=>
      have hh:z7l s.data.toList=([],0,0):=by unfold z7l;rw[if_neg (by rw[hx];decide),if_neg (by rw[hd];decide)]
      rw[hd] at HD;rw[hh] at hres;simp only[if_true] at hres;subst hres;have HX:=hide HX;have HD:=hide HD;clear hx hd hh
      go_wp2_with (first
       |(go_at_call 97;go_fit HX.out;rintro e w1 ⟨rfl,rfl⟩)
       |(go_at_call 97;go_fit HD.out;rintro e w1 ⟨rfl,rfl⟩))
      go_ret2
      exact⟨rfl,hfr.out⟩
end Go.Proofs.YtnlacmnoocigiaaGreatDoor
namespace Go.Proofs.YtnlacmnoocigiaaGreatDoor
open Go.RowKit Go.Lib
theorem zy9 {P:Program}(W:World)(t e:TypeId){k:Nat}(ht:P.underlying t=some (.slice e))(hsz:(Go.sizeOf e).run P W=.ok k W)(A:Option Addr)(n c hi:Nat)(h2:hi≤c):
 (Instr.slice t (.slice A n c) none (some (.int .i64 (hi:Int))) none).run P W=.ok (.slice (if c=0 then A else A.map (·.add (0*k))) hi c) W:=by
 have h3:(hi:Int)≤c:=by omega
 simp[Instr.slice,Instr.sliceBounds,Instr.sliceBound,run_underlying ht,hsz,asIntOf,h3];intro h;omega
theorem zwb (z:Array Value)(n j:Nat)(hj:j<n)(hz:0<z.size):(madeCells z n).toList[j]? =some (z[j % z.size]'(Nat.mod_lt _ hz)):=by have hm:j % z.size<z.size:=Nat.mod_lt _ hz;rw[Array.getElem?_toList];unfold madeCells;rw[Array.getElem?_map,Array.getElem?_range,if_pos hj,Option.map_some,getElem!_pos z _ hm]
theorem zt5 {α:Type}(C:Cod α)(z:Array Value)(x:α)(hz:z.toList=C.cells x)(n:Nat):(madeCells z (n*C.size)).toList=C.flat (List.replicate n x):=by
 have hs:z.size=C.size:=by rw[←Array.length_toList,hz,C.len]
 refine List.ext_getElem? fun j=> ?_;by_cases hj:j<n*C.size
 · have hp:=C.pos;have hq:j / C.size<n:=Nat.div_lt_of_lt_mul (by rw[Nat.mul_comm];exact hj);have hr:j % C.size<C.size:=Nat.mod_lt _ hp;have e:j / C.size*C.size+j % C.size=j:=by rw[Nat.mul_comm];exact Nat.div_add_mod j C.size
   have h1:=C.flat_at (List.replicate n x) (j / C.size) (j % C.size) (by rw[List.length_replicate];exact hq) hr;rw[e] at h1;rw[h1,zwb z _ j hj (by omega),List.getElem_replicate,←hz,Array.getElem?_toList,Array.getElem?_eq_getElem (by omega)];congr 2;rw[hs]
 · rw[List.getElem?_eq_none (by rw[Array.length_toList,size_madeCells];omega),List.getElem?_eq_none (by rw[C.flat_len,List.length_replicate];omega)]
theorem zk8 {α:Type}{P:Program}{C:Cod α}{t e:TypeId}{bytes:Nat}(hel:El P t e C.size bytes)(x:α)(hx:∀i z,P.info? e=some i→i.zero=some z→z.cells.toList=C.cells x)(n:Nat)(hb:bytes*n≤281474976710656)(hn:n≤4611686018427387904):
 ∃cur,(∀W:World,(Instr.makeSlice t (.int .i64 (n:Int)) (.int .i64 (n:Int))).run P W=.ok (.slice (some ⟨W.heap.size,0,none⟩) n n) (W.alloc (.cells cur e)))∧(0<n→∀W:World,Own C (W.alloc (.cells cur e)) e (.slice (some ⟨W.heap.size,0,none⟩) n n) (some W.heap.size) (List.replicate n x)):=by
 obtain⟨ht,i,z,hi,hz,h1,h2,h3,h4⟩:=hel;refine⟨madeCells z.cells (n*C.size),fun W=> ?_,fun h0 W=> ?_⟩
 · have:=run_make (P:=P) W t e i z ht hi hz .i64 .i64 (n:Int) (n:Int) (by omega) (Int.le_refl _) (by rw[h2,←Int.natCast_mul];generalize bytes*n=q at hb;omega) (by omega);rw[h1,Int.toNat_natCast] at this;exact this
 · have hl:(List.replicate n x).length=n:=List.length_replicate
   have:=Own.made C W e (madeCells z.cells (n*C.size)) (List.replicate n x) n h0 (by rw[hl];exact Nat.le_refl _) (by unfold maxLen;omega) (by rw[size_madeCells];exact Nat.le_refl _)
    (by rw[zt5 C z.cells x (hx i z hi hz) n,hl]
        refine List.take_of_length_le ?_;rw[C.flat_len,hl];exact Nat.le_refl _)
   rw[hl] at this;exact this
section
variable {α : Type} {C : Cod α} {w : World} {E : TypeId} {A : Option Addr} {n c : Nat} {o : Option Nat} {l : List α}
theorem Own.cut (h:Own C w E (.slice A n c) o l){k:Nat}(hk:k≤l.length):∃o',Own C w E (.slice (if c=0 then A else A.map (·.add (0*C.size))) k c) o' (l.take k)∧(o'=none∨o'=o):=by
 have hl:(l.take k).length=k:=by rw[List.length_take];omega
 rcases h with ⟨A',h1,h2,h3⟩|⟨g,off,cap,cur,h1,h2,h3,h4,h5,h6,h7,h8⟩
 · simp only[Value.slice.injEq] at h1;obtain⟨rfl,rfl,rfl⟩:=h1;subst h3;obtain rfl:k=0:=by simpa using hk
   exact⟨none,.inl ⟨_,rfl,rfl,rfl⟩,.inl rfl⟩
 · simp only[Value.slice.injEq] at h1;obtain⟨rfl,rfl,rfl⟩:=h1;refine⟨o,.inr ⟨g,off,c,cur, ?_,h2,h3,h4,by omega,h6,h7, ?_⟩,.inr rfl⟩
   · rw[hl,if_neg (by omega),Option.map_some,Addr.add_lit,Nat.zero_mul,Nat.add_zero]
   · rw[hl,←C.flat_take,←h8,List.take_take,Nat.min_eq_left (Nat.mul_le_mul_right _ hk)]
end
def toV (x:PlM):NodeV:=⟨⟨#[]⟩,none,0,0,⟨#[]⟩,x.1,x.2.1,x.2.2,0⟩
def zV :NodeV:=⟨⟨#[]⟩,none,0,0,⟨#[]⟩,0,0,0,0⟩
theorem zxj (W:World):(Go.sizeOf 3).run Tryz.prog W=.ok 1 W:=by have:=Tryz.sizeOf3;first|exact this W|exact this
theorem zp2 :∀i z,Tryz.prog.info? 45=some i→i.zero=some z→z.cells.toList=nodeC.cells zV:=by
 intro i z hi hz;have h:(Tryz.prog.info? 45).map (fun i=>i.zero)=some (some (.agg #[.string ⟨#[]⟩,.slice none 0 0,.string ⟨#[]⟩,.int .i64 0,.int .i64 0,.int .i64 0,.int .i64 0])):=by kernel_rfl
 rw[hi,Option.map_some,hz] at h;simp only[Option.some.injEq] at h;subst h;rfl
theorem zt6 :∀i z,Tryz.prog.info? 3=some i→i.zero=some z→z.cells.toList=intT.cells 0:=by
 intro i z hi hz;have h:(Tryz.prog.info? 3).map (fun i=>i.zero)=some (some (.int .i64 0)):=by kernel_rfl
 rw[hi,Option.map_some,hz] at h;simp only[Option.some.injEq] at h;subst h;rfl
structure LkW (w wr:World)(g t n:Nat)(ov:Value)(oo:Option Nat)(b:LkM)(S:List Nat):Prop where
 pl:Own nodeC wr 45 (.slice (some ⟨g,0,none⟩) n n) (some g) (padG toV zV n b.pl)
 la:Own intT wr 3 (.slice (some ⟨t,0,none⟩) n n) (some t) (padG id 0 n b.last)
 op:Own intT wr 3 ov oo (S.reverse.map Int.ofNat)
 gt:g≠t
 og:oo≠some g
 ot:oo≠some t
 gn:w.heap.size≤g
 tn:w.heap.size≤t
 on:∀k,oo=some k→w.heap.size≤k
 fr:Fr (fun _=>False) w wr
namespace LkW
variable {w wr W : World} {g t n : Nat} {ov : Value} {oo : Option Nat} {b : LkM} {S : List Nat}
theorem same (h:LkW w wr g t n ov oo b S)(f:Fr (fun _=>False) wr W):LkW w W g t n ov oo b S:=⟨h.pl.fr f (fun _ _ h=>h),h.la.fr f (fun _ _ h=>h),h.op.fr f (fun _ _ h=>h),h.gt,h.og,h.ot,h.gn,h.tn,h.on,h.fr.trans f⟩
theorem qg (h:LkW w wr g t n ov oo b S):g<wr.heap.size∧t<wr.heap.size:=⟨h.pl.lt g rfl,h.la.lt t rfl⟩
theorem first (h:LkW w wr g t n ov oo b S){s:Nat}(hs:s<b.pl.length)(hl:b.pl.length≤n)(k:Int):LkW w (wr.setCell ⟨g,s*7+4,none⟩ (.int .i64 k)) g t n ov oo {b with pl:=b.pl.modify s (fstP k)} S:=by
 have f:=Fr.set_b wr g (s*7+4) (.int .i64 k);have hx:s<(padG toV zV n b.pl).length:=by rw[z4d hl];omega
 have h1:=Own.set1 (i:=s) (j:=4) h.pl hx (by decide) (u:=.int .i64 k) (x':=toV (fstP k b.pl[s])) (by rw[zat hs hx];rfl);rw[zey hs,←z9p,Nat.zero_add] at h1;exact⟨h1,h.la.fr f (fun j hj e=>h.gt (by cases hj;exact e.symm)),h.op.fr f (fun j hj e=>h.og (by rw[hj,e])),h.gt,h.og,h.ot,h.gn,h.tn,h.on,h.fr.then_ f (fun j h1 h2=>by have:=h.gn;omega)⟩
theorem next (h:LkW w wr g t n ov oo b S){s:Nat}(hs:s<b.pl.length)(hl:b.pl.length≤n)(k:Int):LkW w (wr.setCell ⟨g,s*7+5,none⟩ (.int .i64 k)) g t n ov oo {b with pl:=b.pl.modify s (nxtP k)} S:=by
 have f:=Fr.set_b wr g (s*7+5) (.int .i64 k);have hx:s<(padG toV zV n b.pl).length:=by rw[z4d hl];omega
 have h1:=Own.set1 (i:=s) (j:=5) h.pl hx (by decide) (u:=.int .i64 k) (x':=toV (nxtP k b.pl[s])) (by rw[zat hs hx];rfl);rw[zey hs,←z9p,Nat.zero_add] at h1;exact⟨h1,h.la.fr f (fun j hj e=>h.gt (by cases hj;exact e.symm)),h.op.fr f (fun j hj e=>h.og (by rw[hj,e])),h.gt,h.og,h.ot,h.gn,h.tn,h.on,h.fr.then_ f (fun j h1 h2=>by have:=h.gn;omega)⟩
theorem lastS (h:LkW w wr g t n ov oo b S){s:Nat}(hs:s<b.last.length)(hl:b.last.length≤n)(k:Int):LkW w (wr.setCell ⟨t,s,none⟩ (.int .i64 k)) g t n ov oo {b with last:=b.last.set s k} S:=by
 have f:=Fr.set_b wr t s (.int .i64 k);have hx:s<(padG (id:Int→Int) 0 n b.last).length:=by rw[z4d hl];omega
 have h1:=Own.set1 (i:=s) (j:=0) h.la hx (by decide) (u:=.int .i64 k) (x':=(id k:Int)) (by rfl);rw[zey hs,Nat.zero_add,Nat.add_zero,show intT.size=1 from rfl,Nat.mul_one] at h1;exact⟨h.pl.fr f (fun j hj e=>h.gt (by cases hj;exact e)),h1,h.op.fr f (fun j hj e=>h.ot (by rw[hj,e])),h.gt,h.og,h.ot,h.gn,h.tn,h.on,h.fr.then_ f (fun j h1 h2=>by have:=h.tn;omega)⟩
end LkW
section
variable {w : World} {E : TypeId} {g n cap : Nat}
theorem Own.put7 {T:List NodeV}(h:Own nodeC w E (.slice (some ⟨g,0,none⟩) n cap) (some g) T){i:Nat}(hi:i<T.length)(x:NodeV):
 Own nodeC (((((((w.setCell ⟨g,i*7,none⟩ (.string x.name)).setCell ⟨g,i*7+1,none⟩ (.slice x.A x.m x.c)).setCell ⟨g,i*7+2,none⟩ (.string x.text)).setCell ⟨g,i*7+3,none⟩ (.int .i64 x.parent)).setCell ⟨g,i*7+4,none⟩ (.int .i64 x.first)).setCell ⟨g,i*7+5,none⟩ (.int .i64 x.next)).setCell ⟨g,i*7+6,none⟩ (.int .i64 x.at_)) E
  (.slice (some ⟨g,0,none⟩) n cap) (some g) (T.set i x):=by
 have h0:=h.set1 (j:=0) hi (by decide) (u:=.string x.name) (x':={T[i] with name:=x.name}) (by rfl);have h1:=h0.set1 (i:=i) (j:=1) (by simpa using hi) (by decide) (u:=.slice x.A x.m x.c) (x':={T[i] with name:=x.name,A:=x.A,m:=x.m,c:=x.c}) (by rw[List.getElem_set_self];rfl);rw[List.set_set] at h1;have h2:=h1.set1 (i:=i) (j:=2) (by simpa using hi) (by decide) (u:=.string x.text) (x':={T[i] with name:=x.name,A:=x.A,m:=x.m,c:=x.c,text:=x.text}) (by rw[List.getElem_set_self];rfl);rw[List.set_set] at h2;have h3:=h2.set1 (i:=i) (j:=3) (by simpa using hi) (by decide) (u:=.int .i64 x.parent) (x':={T[i] with name:=x.name,A:=x.A,m:=x.m,c:=x.c,text:=x.text,parent:=x.parent}) (by rw[List.getElem_set_self];rfl);rw[List.set_set] at h3;have h4:=h3.set1 (i:=i) (j:=4) (by simpa using hi) (by decide) (u:=.int .i64 x.first) (x':={T[i] with name:=x.name,A:=x.A,m:=x.m,c:=x.c,text:=x.text,parent:=x.parent,first:=x.first}) (by rw[List.getElem_set_self];rfl);rw[List.set_set] at h4;have h5:=h4.set1 (i:=i) (j:=5) (by simpa using hi) (by decide) (u:=.int .i64 x.next) (x':={x with at_:=T[i].at_}) (by rw[List.getElem_set_self];rfl);rw[List.set_set] at h5;have h6:=h5.set1 (i:=i) (j:=6) (by simpa using hi) (by decide) (u:=.int .i64 x.at_) (x':=x) (by rw[List.getElem_set_self];rfl);rw[List.set_set] at h6;simp only[Nat.zero_add,Nat.add_zero,show nodeC.size=7 from rfl] at h6;exact h6
end
theorem Own.putC {w:World}{E:TypeId}{g n cap:Nat}{T:List NodeV}(h:Own nodeC w E (.slice (some ⟨g,0,none⟩) n cap) (some g) T){i:Nat}(hi:i<T.length)(x:NodeV):
 Own nodeC (w.setCells g (i*7) (nodeC.cells x)) E (.slice (some ⟨g,0,none⟩) n cap) (some g) (T.set i x):=h.put7 hi x
theorem z63 (V:World)(g:Nat):∀(vs:List Value) (o:Nat),Fr (fun j=>j=g) V (V.setCells g o vs):=by
 intro vs
 induction vs generalizing V with
 |nil=>intro o;exact Fr.refl _ _
 |cons v vs ih=>intro o;exact(Fr.set_b V g o v).trans (ih _ (o+1))
def placeW (V:World)(g t k:Nat)(p:Int):World:=(V.setCells g (k*7) (nodeC.cells (toV (p, -1, -1)))).setCell ⟨t,k,none⟩ (.int .i64 (-1))
theorem zp3 (V:World)(g t k:Nat)(p:Int):Fr (fun j=>j=g∨j=t) V (placeW V g t k p):=((z63 V g _ _).mono (fun _ h=>.inl h)).trans ((Fr.set_b _ t k _).mono (fun _ h=>.inr h))
theorem LkW.put {w wr:World}{g t n:Nat}{ov:Value}{oo:Option Nat}{b:LkM}{S:List Nat}(h:LkW w wr g t n ov oo b S)(hl:b.pl.length<n)(hl2:b.last.length=b.pl.length)(p:Int):
 LkW w (placeW wr g t b.pl.length p) g t n ov oo {b with pl:=b.pl++[(p, -1, -1)],last:=b.last++[-1]} S:=by
 have hg:=h.pl.putC (i:=b.pl.length) (by rw[z4d (Nat.le_of_lt hl)];exact hl) (toV (p, -1, -1));rw[zh6 hl] at hg;have f:=zp3 wr g t b.pl.length p;have fg:=z63 wr g (nodeC.cells (toV (p, -1, -1))) (b.pl.length*7);have h1:=Own.set1 (i:=b.pl.length) (j:=0) (h.la.fr fg (fun j hj e=>h.gt (by cases hj;exact e.symm))) (by rw[z4d (by omega)];exact hl) (by decide) (u:=.int .i64 (-1)) (x':=(id (-1):Int)) (by rfl);rw[←hl2,zh6 (by omega),hl2,Nat.zero_add,Nat.add_zero,show intT.size=1 from rfl,Nat.mul_one] at h1;refine⟨hg.fr (Fr.set_b _ t _ _) (fun j hj e=>h.gt (by cases hj;exact e)),h1,h.op.fr f ?_,h.gt,h.og,h.ot,h.gn,h.tn,h.on,h.fr.then_ f (fun j h1 h2=> ?_)⟩
 · rintro j hj (e|e)
   · exact h.og (by rw[hj,e])
   · exact h.ot (by rw[hj,e])
 · have:=h.gn;have:=h.tn;omega
theorem zt7 {α β:Type}{f:α→β}{z:β}{n:Nat}{l:List α}{k:Nat}(hk:l.length≤k)(hj:k<(padG f z n l).length):(padG f z n l)[k]=z:=by unfold padG at hj⊢;rw[List.getElem_append_right (by rw[List.length_map];exact hk),List.getElem_replicate]
theorem LkW.frz {w wr:World}{g t n:Nat}{ov:Value}{oo:Option Nat}{b:LkM}{S:List Nat}(h:LkW w wr g t n ov oo b S):(∀i,wr.frozen? ⟨g,i,none⟩=false)∧(∀i,wr.frozen? ⟨t,i,none⟩=false):=⟨fun i=>h.pl.frozen rfl (by simp),fun i=>h.la.frozen rfl (by simp)⟩
theorem LkW.last0 {w wr:World}{g t n:Nat}{ov:Value}{oo:Option Nat}{b:LkM}{S:List Nat}(h:LkW w wr g t n ov oo b S)(hl2:b.last.length≤n){k:Nat}(hk:k<n)(h2:b.last.length≤k):
 wr.cell? ⟨t,k,none⟩=some (.int .i64 0):=by
 have hx:k<(padG (id:Int→Int) 0 n b.last).length:=by rw[z4d hl2];exact hk
 obtain⟨g1,off,cp,hv, -, -, -,hc⟩:=h.la.rd.at_ (i:=k) hx;simp only[Value.slice.injEq,Option.some.injEq,Addr.mk.injEq] at hv;obtain⟨⟨rfl,rfl, -⟩, -⟩:=hv;have h3:=hc 0 (by decide);rw[show intT.size=1 from rfl,Nat.zero_add,Nat.mul_one,Nat.add_zero,zt7 h2 hx] at h3;exact h3
theorem LkW.cell_at {w wr:World}{g t n:Nat}{ov:Value}{oo:Option Nat}{b:LkM}{S:List Nat}(h:LkW w wr g t n ov oo b S)(hl:b.pl.length≤n){s:Nat}(hs:s<b.pl.length):
 wr.cell? ⟨g,s*7+4,none⟩=some (.int .i64 b.pl[s].2.1)∧wr.cell? ⟨g,s*7+5,none⟩=some (.int .i64 b.pl[s].2.2):=by
 have hx:s<(padG toV zV n b.pl).length:=by rw[z4d hl];omega
 obtain⟨g1,off,cp,hv, -, -, -,hc⟩:=h.pl.rd.at_ (i:=s) hx;simp only[Value.slice.injEq,Option.some.injEq,Addr.mk.injEq] at hv;obtain⟨⟨rfl,rfl, -⟩, -⟩:=hv;have h4:=hc 4 (by decide);have h5:=hc 5 (by decide);rw[Nat.zero_add,zat hs hx] at h4 h5;exact⟨h4,h5⟩
theorem LkW.last_at {w wr:World}{g t n:Nat}{ov:Value}{oo:Option Nat}{b:LkM}{S:List Nat}(h:LkW w wr g t n ov oo b S)(hl2:b.last.length≤n){s:Nat}(hs:s<b.last.length):
 wr.cell? ⟨t,s,none⟩=some (.int .i64 b.last[s]):=by
 have hx:s<(padG (id:Int→Int) 0 n b.last).length:=by rw[z4d hl2];omega
 obtain⟨g1,off,cp,hv, -, -, -,hc⟩:=h.la.rd.at_ (i:=s) hx;simp only[Value.slice.injEq,Option.some.injEq,Addr.mk.injEq] at hv;obtain⟨⟨rfl,rfl, -⟩, -⟩:=hv;have h1:=hc 0 (by decide);rw[show intT.size=1 from rfl,Nat.zero_add,Nat.mul_one,Nat.add_zero,zat hs hx] at h1;exact h1
theorem LkW.push {w V V1 w3:World}{g t n k:Nat}{ov v3:Value}{oo o3:Option Nat}{b:LkM}{S:List Nat}(h:LkW w V g t n ov oo b S)(f:Fr (fun _=>False) V V1)(m3:Own intT w3 3 v3 o3 (S.reverse.map Int.ofNat++[(k:Int)]))
 (g3:Fr (fun j=>oo=some j) V1 w3) (n3:∀j,o3=some j→oo=some j∨(V1.heap.size≤j∧j<w3.heap.size)):LkW w w3 g t n v3 o3 b (k::S):=by
 obtain⟨q1,q2⟩:=h.qg;have hs:=f.size;have h0:=h.fr.size;refine⟨(h.pl.fr f (fun _ _ h=>h)).fr g3 (fun j hj e=>h.og (e.trans hj.symm)),(h.la.fr f (fun _ _ h=>h)).fr g3 (fun j hj e=>h.ot (e.trans hj.symm)), ?_,h.gt,fun e=> ?_,fun e=> ?_,h.gn,h.tn,fun j hj=> ?_,(h.fr.trans f).then_ g3 (fun j h1 h2=>by have:=h.on j h2;omega)⟩
 · rw[List.reverse_cons,List.map_append];exact m3
 · rcases n3 g e with h1|h1
   · exact h.og h1
   · omega
 · rcases n3 t e with h1|h1
   · exact h.ot h1
   · omega
 · rcases n3 j hj with h1|h1
   · exact h.on j h1
   · omega
theorem LkW.pop {w V:World}{g t n d tl s:Nat}{B:Option Addr}{oo:Option Nat}{b:LkM}{S:List Nat}(h:LkW w V g t n (.slice B tl d) oo b (s::S)):
 ∃BX o',LkW w V g t n (.slice BX S.length d) o' b S∧∀W:World,(Instr.slice 40 (.slice B tl d) none (some (.int .i64 (S.length:Int))) none).run Tryz.prog W=.ok (.slice BX S.length d) W:=by
 have hl:((s::S).reverse.map Int.ofNat).length=S.length+1:=by simp
 obtain⟨A',c',hv,h1,h2⟩:=h.op.form;simp only[Value.slice.injEq] at hv;obtain⟨rfl,rfl,rfl⟩:=hv;obtain⟨o',hc,ho⟩:=h.op.cut (k:=S.length) (by rw[hl];omega);have ht:((s::S).reverse.map Int.ofNat).take S.length=S.reverse.map Int.ofNat:=by rw[List.reverse_cons,List.map_append,List.take_left' (by simp)]
 rw[ht] at hc;refine⟨_,o',⟨h.pl,h.la,hc,h.gt, ?_, ?_,h.gn,h.tn, ?_,h.fr⟩,fun W=> ?_⟩
 · rcases ho with rfl|rfl
   · simp
   · exact h.og
 · rcases ho with rfl|rfl
   · simp
   · exact h.ot
 · rcases ho with rfl|rfl
   · intro k hk;cases hk
   · exact h.on
 · exact zy9 W 40 3 Tryz.underlying40 (zxj W) _ _ _ _ (by omega)
theorem LkW.top {w V:World}{g t n d tl s:Nat}{B:Option Addr}{oo:Option Nat}{b:LkM}{S:List Nat}(h:LkW w V g t n (.slice B tl d) oo b (s::S)):
 ∃go off,B=some ⟨go,off,none⟩∧V.cell? ⟨go,off+S.length,none⟩=some (.int .i64 (s:Int)):=by
 have hl:((s::S).reverse.map Int.ofNat).length=S.length+1:=by simp
 obtain⟨go,off,cp,hv, -, -, -,hc⟩:=h.op.rd.at_ (i:=S.length) (by rw[hl];omega);simp only[Value.slice.injEq] at hv;obtain⟨rfl, -, -⟩:=hv;have h1:=hc 0 (by decide);rw[show intT.size=1 from rfl,Nat.mul_one,Nat.add_zero] at h1;refine⟨go,off,rfl,h1.trans ?_⟩;have:((s::S).reverse.map Int.ofNat)[S.length]'(by rw[hl];omega)=(s:Int):=by rw[List.getElem_map,List.getElem_reverse];simp
 rw[this];rfl
theorem z8v (V:World)(g:Nat):∀(vs:List Value) (o:Nat),(V.setCells g o vs).heap.size=V.heap.size:=by
 intro vs
 induction vs generalizing V with
 |nil=>intro o;rfl
 |cons v vs ih=>intro o;exact(ih _ _).trans (by simp)
theorem z3z {P:Program}{ops:Array Oper}{rest:List Oper}{op:Oper}{a:Act}{W V1:World}{Q:Exit→Act→World→Prop}{ty:TypeId}{x y:Operand}(hgd:op.guard=none)(ho:op.op=.store ty x y)
 {p v:Value} (hx:a.eval x=p) (hy:a.eval y=v) (hst:(Instr.storeAt ty p v).run P W=.ok () V1) (h:wpList P ops Q rest (a.put op.dst undef) V1):wpList P ops Q (op::rest) a W:=
 wpList_plain hgd fun _ hK=>by unfold Oper.wp execOp;simp only[ho,hx,hy,Sem.run_bind,Sem.run_pure,Result.andThen_ok,hst];exact hK _ _ h
theorem zp4 :(Tryz.prog.info? 45).map (·.size)=some 7:=by kernel_rfl
theorem LkW.store {w wr:World}{g t n:Nat}{ov:Value}{oo:Option Nat}{b:LkM}{S:List Nat}(h:LkW w wr g t n ov oo b S)(hl:b.pl.length≤n){k:Nat}(hk:k<n)(p:Int):
 (Instr.storeAt 45 (.pointer (some ⟨g,k*7,none⟩)) (.agg #[.string ⟨#[]⟩,.slice none 0 0,.string ⟨#[]⟩,.int .i64 p,.int .i64 (-1),.int .i64 (-1),.int .i64 0])).run Tryz.prog wr=.ok () (wr.setCells g (k*7) (nodeC.cells (toV (p, -1, -1)))):=by
 refine run_storeAt_mid wr g (k*7) 45 #[.string ⟨#[]⟩,.slice none 0 0,.string ⟨#[]⟩,.int .i64 p,.int .i64 (-1),.int .i64 (-1),.int .i64 0] (fun j hj=>⟨?_,h.pl.frozen rfl (by simp)⟩) zp4 (all_oneCell_toArray (cs:=nodeC.cells (toV (p, -1, -1))) (fun v hv=>nodeC.one _ v hv));have hx:k<(padG toV zV n b.pl).length:=by rw[z4d hl];exact hk
 obtain⟨g1,off,cp,hv, -, -, -,hc⟩:=h.pl.rd.at_ (i:=k) hx;simp only[Value.slice.injEq,Option.some.injEq,Addr.mk.injEq] at hv;obtain⟨⟨rfl,rfl, -⟩, -⟩:=hv;have h3:=hc j hj;rw[Nat.zero_add] at h3;rw[show k*7+j=k*nodeC.size+j from rfl,h3,List.getElem?_eq_getElem (by rw[nodeC.len];exact hj)];rfl
theorem zk9 (V W:World)(hs:W.heap.size=V.heap.size)(k:Int):Rd intT (W.alloc (.cells #[.int .i64 k] 3)) (fun j=>j=V.heap.size) (.slice (some ⟨V.heap.size,0,none⟩) 1 1) [k]:=by refine zpy W k 3 _ _ ?_;rw[←hs];exact heap_alloc_new W _
theorem LkW.of {w V:World}{g t n:Nat}{ov:Value}{oo:Option Nat}{b b':LkM}{S S':List Nat}(h:LkW w V g t n ov oo b S)(h1:b'.pl=b.pl)(h2:b'.last=b.last)(h3:S'=S):LkW w V g t n ov oo b' S':=by subst h3;exact⟨by rw[h1];exact h.pl,by rw[h2];exact h.la,h.op,h.gt,h.og,h.ot,h.gn,h.tn,h.on,h.fr⟩
theorem zp5 (w:World)(o:Obj)(cl ct:Array Value)(o4:Obj)(n:Nat)
 (h1:∀W:World,Own nodeC (W.alloc (.cells cl 45)) 45 (.slice (some ⟨W.heap.size,0,none⟩) n n) (some W.heap.size) (List.replicate n zV))
 (h2:∀W:World,Own intT (W.alloc (.cells ct 3)) 3 (.slice (some ⟨W.heap.size,0,none⟩) n n) (some W.heap.size) (List.replicate n 0)):
 LkW w ((((w.alloc o).alloc (.cells cl 45)).alloc (.cells ct 3)).alloc o4) (w.heap.size+1) (w.heap.size+1+1) n (.slice (some ⟨w.heap.size+1+1+1,0,none⟩) 0 0) none lk0 []:=by
 have e1:=h1 (w.alloc o);have e2:=h2 ((w.alloc o).alloc (.cells cl 45));simp only[World.size_alloc] at e1 e2;refine⟨?_, ?_,Own.nil_ _ _ _ _,by omega,by simp,by simp,by omega,by omega,fun k hk=>(by cases hk),(((Fr.refl _ _).alloc _).alloc _).alloc _|>.alloc _⟩
 · rw[show lk0.pl=[] from rfl,zkp];exact e1.fr ((((Fr.refl (fun _=>False) _).alloc _)).alloc _) (fun _ _ h=>h)
 · rw[show lk0.last=[] from rfl,zkp];exact e2.fr ((Fr.refl (fun _=>False) _).alloc _) (fun _ _ h=>h)
end Go.Proofs.YtnlacmnoocigiaaGreatDoor
namespace Go.Proofs.YtnlacmnoocigiaaGreatDoor
open Go.RowKit
section
variable {P : Program} {md : Region.Mode} {ops : Array Oper} {Q : Exit → Act → World → Prop} {oi : Oper} {fuel : Nat} {listed : Array Bool} {a : Act} {w : World}
theorem tkG (i:Nat)(v:Value)(h:wpAny P md ops Q fuel (listed.setIfInBounds i true) (a.put oi.dst v) w)(hi:ops[i]? =some oi:=by rfl)
 (hs:Region.noSelect ops=true:=by kernel_rfl) (hf:Region.free md ops listed i=true:=by kernel_rfl) (hr:(Region.ready md ops listed).contains i=true:=by kernel_rfl)
 (hQ:∀c a w,Q (.panic c) (a.put oi.dst v) w→Q (.panic c) a w:=by exact fun _ _ _ h=>h) (hy:Yields P ops oi v a:=by exact Or.inl ⟨by kernel_rfl,fun w=>by go_simp⟩):wpAny P md ops Q (fuel+1) listed a w:=
 wpAny_take hi hs hf hr hQ hy h
theorem tkS (i:Nat)(h:wpAny P md ops Q fuel (listed.setIfInBounds i true) (a.put oi.dst undef) w)(hi:ops[i]? =some oi:=by rfl)
 (hs:Region.noSelect ops=true:=by kernel_rfl) (hf:Region.free md ops listed i=true:=by kernel_rfl) (hr:(Region.ready md ops listed).contains i=true:=by kernel_rfl)
 (hQ:∀c a w,Q (.panic c) (a.put oi.dst undef) w→Q (.panic c) a w:=by exact fun _ _ _ h=>h) (hy:Yields P ops oi undef a:=by exact Or.inr ⟨by kernel_rfl,rfl⟩):wpAny P md ops Q (fuel+1) listed a w:=
 wpAny_take hi hs hf hr hQ hy h
end
end Go.Proofs.YtnlacmnoocigiaaGreatDoor
