/- the reference's names: letter, May, Plain, Split, Begin. -/
import Derived.Test.YtnlacmnoocigiaaGreatDoorNamAb
namespace Go.Proofs.YtnlacmnoocigiaaGreatDoor
open Go.RowKit Go.Lib
attribute [local go_sem ↓] Go.wp_at_zero Go.wp_at_succ
set_option maxHeartbeats 1000000 in
theorem zd6 (b:UInt8)(w:World):Calls Tryz.prog 152 #[.int .u8 (b.toNat:Int)] w fun e w'=>e=.returned (.bool (isF b))∧w=w':=by
 have hb:=UInt8.toNat_lt b;have hF:=zos b;by_cases h95:b=95
 · subst h95;rw[show isF 95=true by decide];clear hF hb;go_enter Tryz.func152,Tryz.ntmps152;go_wp2;go_ret;exact⟨rfl,rfl⟩
 · have e95:((b.toNat:Int)==95)=false:=by rw[beq_eq_false_iff_ne];intro e;exact h95 (UInt8.toNat_inj.1 (by show _=95;omega))
   have n95:b.toNat≠95:=fun e=>h95 (UInt8.toNat_inj.1 e);by_cases h:(65≤b.toNat∧b.toNat≤90)∨(97≤b.toNat∧b.toNat≤122)
   · rw[hF.2 (.inl h)];have hc:((65:Int)≤b.toNat∧(b.toNat:Int)≤90)∨((65:Int)≤b.toNat∧(90:Int)<b.toNat∧(97:Int)≤b.toNat∧(b.toNat:Int)≤122):=by omega
     clear hF h n95 h95 e95;rcases hc with ⟨c1,c2⟩|⟨c1,c2,c3,c4⟩
     all_goals
      go_enter Tryz.func152,Tryz.ntmps152;go_wp2;go_ret;exact⟨rfl,rfl⟩
   · have hf:isF b=false:=by
      cases hh:isF b with
      |false=>rfl
      |true=>exact absurd (hF.1 hh) (by omega)
     rw[hf];have hc:((b.toNat:Int)<65)∨((65:Int)≤b.toNat∧(90:Int)<b.toNat∧(b.toNat:Int)<97)∨((65:Int)≤b.toNat∧(90:Int)<b.toNat∧(97:Int)≤b.toNat∧(122:Int)<b.toNat):=by omega
     clear hF h n95 h95 hf;rcases hc with c1|⟨c1,c2,c3⟩|⟨c1,c2,c3,c4⟩
     all_goals
      go_enter Tryz.func152,Tryz.ntmps152;go_wp2;go_ret;exact⟨by first|rfl|(show Ending.returned (.bool _)=_;congr 2;simp;omega),rfl⟩
set_option maxHeartbeats 1000000 in
theorem zt2 (b:UInt8)(w:World):Calls Tryz.prog 153 #[.int .u8 (b.toNat:Int)] w fun e w'=>e=.returned (.bool (isL b))∧w=w':=by
 have hb:=UInt8.toNat_lt b;have hL:=zot b;have hl:=zd6 b w
 cases hF:isF b with
 |true=>rw[z9i hF];rw[hF] at hl;clear hL hF;go_enter Tryz.func153,Tryz.ntmps153;go_wp2_with (go_at_call 152;refine hl.mono ?_;rintro e w' ⟨rfl,rfl⟩);go_ret;exact⟨rfl,rfl⟩
 |false=>
  rw[hF] at hl hL;by_cases h45:b=45
  · subst h45;rw[show isL 45=true by decide];clear hL hF hb;go_enter Tryz.func153,Tryz.ntmps153;go_wp2_with (go_at_call 152;refine hl.mono ?_;rintro e w' ⟨rfl,rfl⟩);go_ret;exact⟨rfl,rfl⟩
  · by_cases h46:b=46
    · subst h46;rw[show isL 46=true by decide];clear hL hF hb;go_enter Tryz.func153,Tryz.ntmps153;go_wp2_with (go_at_call 152;refine hl.mono ?_;rintro e w' ⟨rfl,rfl⟩);go_ret;exact⟨rfl,rfl⟩
    · have n45:b.toNat≠45:=fun e=>h45 (UInt8.toNat_inj.1 e);have n46:b.toNat≠46:=fun e=>h46 (UInt8.toNat_inj.1 e);have e45:((b.toNat:Int)==45)=false:=by rw[beq_eq_false_iff_ne];omega
      have e46:((b.toNat:Int)==46)=false:=by rw[beq_eq_false_iff_ne];omega
      by_cases hd:48≤b.toNat∧b.toNat≤57
      · rw[hL.2 (.inr (.inl (.inl hd)))];have c1:(48:Int)≤b.toNat:=by omega
        have c2:(b.toNat:Int)≤57:=by omega
        clear hL hF h45 h46 n45 n46 e45 e46 hd;go_enter Tryz.func153,Tryz.ntmps153;go_wp2_with (go_at_call 152;refine hl.mono ?_;rintro e w' ⟨rfl,rfl⟩);go_ret;exact⟨rfl,rfl⟩
      · have hf:isL b=false:=by
         cases hh:isL b with
         |false=>rfl
         |true=>have:=hL.1 hh;simp only[Bool.false_eq_true,false_or] at this;omega
        rw[hf];have hc:((b.toNat:Int)<48)∨((48:Int)≤b.toNat∧(57:Int)<b.toNat):=by omega
        clear hL hF h45 h46 n45 n46 hd hf;rcases hc with c1|⟨c1,c2⟩
        all_goals
         go_enter Tryz.func153,Tryz.ntmps153;go_wp2_with (go_at_call 152;refine hl.mono ?_;rintro e w' ⟨rfl,rfl⟩);go_ret;exact⟨by first|rfl|(show Ending.returned (.bool _)=_;congr 2;simp;omega),rfl⟩
def z3l (l:List UInt8):Bool:=z0o l && decide (l.length≤64)
set_option maxHeartbeats 2000000 in
theorem zd7 (s:ByteArray)(w:World)(hs:s.size≤1000000):Calls Tryz.prog 132 #[.string s] w fun e w'=>e=.returned (.bool (z3l s.data.toList))∧w=w':=by
 have hsz:s.data.toList.length=s.size:=rfl;by_cases h0:0<s.size
 · by_cases h64:s.size≤64
   · have hi64:(s.size:Int)≤64:=by omega
     have hi0:(0:Int)<s.size:=by omega
     have e0:((s.size:Int)==0)=false:=by rw[beq_eq_false_iff_ne];omega
     have e0':s.size≠0:=by omega
     have hcons:s.data.toList=(s[0]'h0)::s.data.toList.drop 1:=by have:=List.drop_eq_getElem_cons (l:=s.data.toList) (i:=0) h0;exact this
     have hl:=zd6 (s[0]'h0) w
     cases hF:isF (s[0]'h0) with
     |false=>
      have hp:z3l s.data.toList=false:=by unfold z3l z0o;rw[show lenN s.data.toList=0 by rw[hcons,z2n,if_neg (by rw[hF];decide)]];rfl
      rw[hp];rw[hF] at hl;clear hcons hF hp hsz;go_enter Tryz.func132,Tryz.ntmps132;go_wp2_with (go_at_call 152;refine hl.mono ?_;rintro e w' ⟨rfl,rfl⟩);go_ret;exact⟨rfl,rfl⟩
     |true=>
      have hp:0<lenN s.data.toList:=by rw[hcons,z2n,if_pos hF];omega
      rw[hF] at hl;have HP:=hide hp;obtain⟨R,hR⟩:∃R,z3l s.data.toList=R:=⟨_,rfl⟩;have hR2:R=decide (lenN s.data.toList=s.size):=by rw[←hR];unfold z3l z0o;rw[decide_eq_true (by omega:lenN s.data.toList≠0),Bool.true_and,hsz,decide_eq_true h64,Bool.and_true]
      have HR:=hide hR2;rw[hR];clear hcons hF hp hsz hR hR2;go_enter Tryz.func132,Tryz.ntmps132;go_wp2_with (go_at_call 152;refine hl.mono ?_;rintro e w' ⟨rfl,rfl⟩);go_loop [3] (fun n=>∃k:Nat,n=.int .i64 k∧k≤s.size∧Hid (k≤lenN s.data.toList)) (fun n=>s.size - (Go.RowKit.intOf n).toNat)
      case atStart=>exact⟨0,rfl,by omega,hide (Nat.zero_le _)⟩
      case round=>
       obtain⟨k,rfl,hk,hkl⟩:=hrel;by_cases hlt:k<s.size
       · have hi:(k:Int)<s.size:=by omega
         have hm:=zt2 (s[k]'hlt) w;have HS:=hide (zgb HP.out hkl.out (z0y s k hlt))
         cases hL:isL (s[k]'hlt) with
         |true=>
          have HG:=hide (HS.out.1 hL);rw[hL] at hm;clear hL;go_wp2_with (go_at_call 153;refine hm.mono ?_;rintro e w' ⟨rfl,rfl⟩);go_round
          case rel=>exact⟨k+1,by go_num,by omega,HG⟩
          case measure=>simp[Go.RowKit.intOf];omega
         |false=>
          have hR:R=false:=by rw[HR.out,←HS.out.2 hL];exact decide_eq_false (by omega)
          rw[hL] at hm;have HG:=hide hR;clear hL hR;go_wp2_with (go_at_call 153;refine hm.mono ?_;rintro e w' ⟨rfl,rfl⟩);go_ret;exact⟨by rw[HG.out];rfl,rfl⟩
       · have hR:R=true:=by rw[HR.out];have:=z5c s.data.toList;have:=hkl.out;have hsz:s.data.toList.length=s.size:=rfl;exact decide_eq_true (by omega)
         have HG:=hide hR;have hi:¬(k:Int)<s.size:=by omega
         clear hR;go_wp2_with fail;go_ret;exact⟨by rw[HG.out];rfl,rfl⟩
   · have hp:z3l s.data.toList=false:=by unfold z3l;rw[decide_eq_false (by omega:¬s.data.toList.length≤64),Bool.and_false]
     rw[hp];have hi64:(64:Int)<s.size:=by omega
     have e0:((s.size:Int)==0)=false:=by rw[beq_eq_false_iff_ne];omega
     have e0':s.size≠0:=by omega
     clear hp hsz;go_enter Tryz.func132,Tryz.ntmps132;go_wp2;go_ret;exact⟨rfl,rfl⟩
 · have hz:s.data.toList=[]:=List.eq_nil_of_length_eq_zero (by omega)
   obtain rfl:s=⟨#[]⟩:=by
    cases s with
    |mk d=>congr 1;exact Array.toList_inj.1 hz
   clear hz hsz h0;go_enter Tryz.func132,Tryz.ntmps132;go_wp2;go_ret;exact⟨rfl,rfl⟩
end Go.Proofs.YtnlacmnoocigiaaGreatDoor
namespace Go.Proofs.YtnlacmnoocigiaaGreatDoor
open Go.RowKit Go.Lib
attribute [local go_sem ↓] Go.wp_at_zero Go.wp_at_succ
def z7p (l:List UInt8):Value:=match z0l l with
 |some (p,r)=>.tuple #[.string ⟨p.toArray⟩,.string ⟨r.toArray⟩,.bool true]
 |none=>.tuple #[.string ⟨#[]⟩,.string ⟨#[]⟩,.bool false]
theorem zov {l:List UInt8}(h:z3l l=true):z0o l=true∧l.length≤64:=by unfold z3l at h;simpa using h
theorem zow {s:ByteArray}{l:List UInt8}(h:s.data.toList=l):s=⟨l.toArray⟩:=by subst h;exact(mk_self_ s).symm
where mk_self_ (s : ByteArray) : (⟨s.data.toList.toArray⟩ : ByteArray) = s := by cases s; rfl
set_option maxHeartbeats 4000000 in
theorem zlu (s:ByteArray)(w:World)(hs:s.size≤1000000):Calls Tryz.prog 99 #[.string s] w fun e w'=>e=.returned (z7p s.data.toList)∧Fr (fun _=>False) w w':=by
 have hsz:s.data.toList.length=s.size:=rfl;have hP:=zd7 s w hs
 cases hp:z3l s.data.toList with
 |true=>
  obtain⟨p1,p2⟩:=zov hp;have hv:z7p s.data.toList=.tuple #[.string ⟨#[]⟩,.string s,.bool true]:=by unfold z7p;rw[za6 p2 p1]
  rw[hv];rw[hp] at hP;clear hv hp p1 p2 hsz;go_enter Tryz.func99,Tryz.ntmps99;go_wp2_with (go_at_call 132;refine hP.mono ?_;rintro e w' ⟨rfl,rfl⟩);go_returns;exact⟨rfl,Fr.refl _ _⟩
 |false=>
  rw[hp] at hP;by_cases h64:s.size≤64
  · have hi64:(s.size:Int)≤64:=by omega
    have hnp:z0o s.data.toList≠true:=fun h=>by unfold z3l at hp;rw[h,decide_eq_true (by omega:s.data.toList.length≤64)] at hp;cases hp
    have HNP:=hide hnp;obtain⟨V,hV⟩:∃V,z7p s.data.toList=V:=⟨_,rfl⟩;rw[hV];have HV:=hide hV
    have hpl:∀(t:ByteArray) (W:World),t.size≤64→Calls Tryz.prog 132 #[.string t] W fun e w'=>e=.returned (.bool (z0o t.data.toList))∧W=w':=fun t W ht=>by
     have h:=zd7 t W (by omega);have e:z3l t.data.toList=z0o t.data.toList:=by unfold z3l;rw[decide_eq_true (show t.data.toList.length≤64 from ht),Bool.and_true]
     rw[e] at h;exact h
    have HPL:=hide hpl;clear hp hnp hV hpl;go_enter Tryz.func99,Tryz.ntmps99;go_wp2_with (go_at_call 132;refine hP.mono ?_;rintro e w' ⟨rfl,rfl⟩);go_loop [5] (fun n=>∃k:Nat,n=.int .i64 k∧k≤s.size∧Hid (∀i,i<k→s.data.toList[i]? =some 58→z0o (s.data.toList.take i)=true→z0o (s.data.toList.drop (i+1))≠true)) (fun n=>s.size - (Go.RowKit.intOf n).toNat)
    case atStart=>exact⟨0,rfl,by omega,hide (fun i hi=>by omega)⟩
    case round=>
     obtain⟨k,rfl,hk,hall⟩:=hrel;by_cases hlt:k<s.size
     · have hi:(k:Int)<s.size:=by omega
       have hget:=z0y s k hlt
       have HA:=hide (fun(hn:¬(s.data.toList[k]? =some 58∧z0o (s.data.toList.take k)=true∧z0o (s.data.toList.drop (k+1))=true))=>
        hide (show ∀i,i<k+1→s.data.toList[i]? =some 58→z0o (s.data.toList.take i)=true→z0o (s.data.toList.drop (i+1))≠true from fun i hi h1 h2 h3=>by
         rcases Nat.lt_or_ge i k with h|h
         · exact hall.out i h h1 h2 h3
         · obtain rfl:i=k:=by omega
           exact hn ⟨h1,h2,h3⟩))
       by_cases h58:s[k]'hlt=58
       · have b58:((s[k]'hlt).toNat:Int)=58:=by rw[h58];rfl
         rw[h58] at hget;have hz1:(s.extract 0 k).size≤64:=by simp;omega
         have hz2:(s.extract (k+1) s.size).size≤64:=by simp;omega
         have d1:(s.extract 0 k).data.toList=s.data.toList.take k:=by rw[z08,List.drop_zero,Nat.sub_zero]
         have d2:(s.extract (k+1) s.size).data.toList=s.data.toList.drop (k+1):=by rw[z08,List.take_of_length_le (by rw[List.length_drop];omega)]
         have P1:=fun W=>HPL.out (s.extract 0 k) W hz1;have P2:=fun W=>HPL.out (s.extract (k+1) s.size) W hz2;rw[d1] at P1;rw[d2] at P2
         cases hp1:z0o (s.data.toList.take k) with
         |false=>
          rw[hp1] at P1 HA;have HG:=hide (HA.out (fun h=>by have:=h.2.1;cases this));have HP1:=hide P1;clear h58 hz1 hz2 d1 d2 P1 P2 hp1 hget HA hsz;go_wp2_with (go_at_call 132;refine(HP1.out _).mono ?_;rintro e w' ⟨rfl,rfl⟩);go_round
          case rel=>exact⟨k+1,by go_num,by omega,HG.out⟩
          case measure=>simp[Go.RowKit.intOf];omega
         |true=>
          rw[hp1] at P1
          cases hp2:z0o (s.data.toList.drop (k+1)) with
          |false=>
           rw[hp2] at P2 HA;have HG:=hide (HA.out (fun h=>by have:=h.2.2;cases this));have HP1:=hide P1;have HP2:=hide P2;clear h58 hz1 hz2 d1 d2 P1 P2 hp1 hp2 hget HA hsz;go_wp2_with (go_at_call 132;(first|go_fit (HP2.out _)|go_fit (HP1.out _));rintro e w' ⟨rfl,rfl⟩)
           go_round
           case rel=>exact⟨k+1,by go_num,by omega,HG.out⟩
           case measure=>simp[Go.RowKit.intOf];omega
          |true=>
           rw[hp2] at P2;have hv:V=.tuple #[.string (s.extract 0 k),.string (s.extract (k+1) s.size),.bool true]:=by rw[←HV.out];unfold z7p;rw[za5 (by omega) hget hp1 hp2];show Value.tuple #[.string ⟨(s.data.toList.take k).toArray⟩,.string ⟨(s.data.toList.drop (k+1)).toArray⟩,.bool true]=_;rw[←zow d1,←zow d2]
           have HG:=hide hv;have HP1:=hide P1;have HP2:=hide P2;have ew:IntKind.i64.wrap ((k:Int)+1)=(k:Int)+1:=IntWalk.i64_in _ (by omega);have ek:((k:Int)+1).toNat=k+1:=by omega
           have ek2:0≤(k:Int)+1:=by omega
           have ek3:(k:Int)+1≤s.size:=by omega
           clear h58 hz1 hz2 d1 d2 P1 P2 hp1 hp2 hget HA hv hsz;go_wp2_with (go_at_call 132;(first|go_fit (HP2.out _)|go_fit (HP1.out _));rintro e w' ⟨rfl,rfl⟩)
           go_quiet (fail)
           go_wp2
           go_returns;exact⟨by rw[HG.out];rfl,(Fr.refl _ _).drewN _⟩
       · have b58:(((s[k]'hlt).toNat:Int)==58)=false:=by rw[beq_eq_false_iff_ne];intro e;exact h58 (UInt8.toNat_inj.1 (by show _=58;omega))
         have HG:=hide (HA.out (fun h=>h58 (by rw[hget] at h;exact Option.some.inj h.1)));clear h58 hget HA hsz;go_wp2_with fail;go_round
         case rel=>exact⟨k+1,by go_num,by omega,HG.out⟩
         case measure=>simp[Go.RowKit.intOf];omega
     · obtain rfl:k=s.size:=by omega
       have hv:V=.tuple #[.string ⟨#[]⟩,.string ⟨#[]⟩,.bool false]:=by rw[←HV.out];unfold z7p;rw[z85 HNP.out (fun i h1 h2=>hall.out i (by have:=(List.getElem?_eq_some_iff.1 h1).1;omega) h1 h2)]
       have HG:=hide hv;clear hv hsz;go_wp2_with fail;go_returns;exact⟨by rw[HG.out];rfl,Fr.refl _ _⟩
  · have hv:z7p s.data.toList=.tuple #[.string ⟨#[]⟩,.string ⟨#[]⟩,.bool false]:=by unfold z7p z0l;rw[if_pos (by omega)]
    rw[hv];have hi64:(64:Int)<s.size:=by omega
    clear hv hp hsz;go_enter Tryz.func99,Tryz.ntmps99;go_wp2_with (go_at_call 132;refine hP.mono ?_;rintro e w' ⟨rfl,rfl⟩);go_returns;exact⟨rfl,Fr.refl _ _⟩
set_option maxHeartbeats 4000000 in
theorem z9g (s:ByteArray)(w:World)(hs:s.size≤1000000):Calls Tryz.prog 68 #[.string s] w fun e w'=>e=.returned (.int .i64 (z03 s.data.toList))∧Fr (fun _=>False) w w':=by
 have hsz:s.data.toList.length=s.size:=rfl;obtain⟨m,hm⟩:∃m,min s.size 64=m:=⟨_,rfl⟩;have hms:m≤s.size:=by omega
 have hm64:m≤64:=by omega
 have hcase:((s.size:Int)≤64∧m=s.size)∨(64<(s.size:Int)∧m=64):=by omega
 obtain⟨R,hR⟩:∃R,z03 s.data.toList=R:=⟨_,rfl⟩
 have HIS:=hide (fun(k:Nat) (h0:0<k) (hk:k≤m) (hok:∃r,z0l (s.data.toList.take k)=some r) (hno:∀j,k<j→j≤m→z0l (s.data.toList.take j)=none)=>
  (show k=R from hR ▸ zpj (n:=k) (by omega) h0 hok (fun j h1 h2=>hno j h1 (by omega))))
 have HZ:=hide (fun(hno:∀j,0<j→j≤m→z0l (s.data.toList.take j)=none)=>(show R=0 from hR ▸ zbv (fun j h1 h2=>hno j h1 (by omega))));rw[hR];have HSP:=hide (fun(t:ByteArray) (W:World) (ht:t.size≤1000000)=>zlu t W ht);clear hm hR hsz;rcases hcase with ⟨hc,rfl⟩|⟨hc,rfl⟩
 · go_enter Tryz.func68,Tryz.ntmps68;go_wp2_with fail;go_loopw [3] (fun n wr=>∃k:Nat,n=.int .i64 k∧k≤s.size∧Hid (Fr (fun _=>False) w wr)∧Hid (∀j,k<j→j≤s.size→z0l (s.data.toList.take j)=none)) (fun n _=>(Go.RowKit.intOf n).toNat)
   case atStart=>exact⟨s.size,rfl,by omega,hide (Fr.refl _ _),hide (fun j h1 h2=>by omega)⟩
   case round=>
    obtain⟨k,rfl,hk,hfr,hno⟩:=hrel;by_cases h0:0<k
    · have hi0:(0:Int)<k:=by omega
      have hks:(k:Int)≤s.size:=by omega
      have hz:(s.extract 0 k).size≤1000000:=by simp;omega
      have d1:(s.extract 0 k).data.toList=s.data.toList.take k:=by rw[z08,List.drop_zero,Nat.sub_zero]
      have P1:=fun W=>HSP.out (s.extract 0 k) W hz;rw[d1] at P1;unfold z7p at P1;have hslk:∀W:World,(Instr.slice 9 (.string s) none (some (.int .i64 (k:Int))) none).run Tryz.prog W=.ok (.string (s.extract 0 k)) W:=fun W=>by rw[run_slice_string_h (P:=Tryz.prog) W 9 s Tryz.underlying9 .i64 _ (by omega) (by omega),Int.toNat_natCast]
      cases hsp:z0l (s.data.toList.take k) with
      |some x=>obtain⟨x1,x2⟩:=x;rw[hsp] at P1;have hk2:=HIS.out k h0 hk ⟨_,hsp⟩ hno.out;have HK:=hide hk2;have HP1:=hide P1;clear hk2 P1 hsp d1 hz;go_wp2_with (go_at_call 99;refine(HP1.out _).mono ?_;rintro e w1 ⟨rfl,f1⟩);go_ret;exact⟨by rw[←HK.out];rfl,hfr.out.trans f1⟩
      |none=>
       rw[hsp] at P1
       have HN:=hide (show ∀j,k - 1<j→j≤s.size→z0l (s.data.toList.take j)=none from fun j h1 h2=>by
        rcases Nat.lt_or_ge k j with h|h
        · exact hno.out j h h2
        · obtain rfl:j=k:=by omega
          exact hsp)
       have HP1:=hide P1;clear P1 hsp d1 hz;go_wp2_with (go_at_call 99;refine(HP1.out _).mono ?_;rintro e w1 ⟨rfl,f1⟩);go_roundw
       case rel=>exact⟨k - 1,by first|go_num|(congr 1;omega),by omega,hide (hfr.out.trans f1),HN⟩
       case measure=>simp[Go.RowKit.intOf];omega
    · obtain rfl:k=0:=by omega
      have HG:=hide (HZ.out hno.out);clear h0;go_wp2_with fail;go_ret;exact⟨by rw[HG.out];rfl,hfr.out⟩
 · go_enter Tryz.func68,Tryz.ntmps68;go_wp2_with fail;go_loopw [3] (fun n wr=>∃k:Nat,n=.int .i64 k∧k≤64∧Hid (Fr (fun _=>False) w wr)∧Hid (∀j,k<j→j≤64→z0l (s.data.toList.take j)=none)) (fun n _=>(Go.RowKit.intOf n).toNat)
   case atStart=>exact⟨64,rfl,by omega,hide (Fr.refl _ _),hide (fun j h1 h2=>by omega)⟩
   case round=>
    obtain⟨k,rfl,hk,hfr,hno⟩:=hrel;by_cases h0:0<k
    · have hi0:(0:Int)<k:=by omega
      have hks:(k:Int)≤s.size:=by omega
      have hz:(s.extract 0 k).size≤1000000:=by simp;omega
      have d1:(s.extract 0 k).data.toList=s.data.toList.take k:=by rw[z08,List.drop_zero,Nat.sub_zero]
      have P1:=fun W=>HSP.out (s.extract 0 k) W hz;rw[d1] at P1;unfold z7p at P1;have hslk:∀W:World,(Instr.slice 9 (.string s) none (some (.int .i64 (k:Int))) none).run Tryz.prog W=.ok (.string (s.extract 0 k)) W:=fun W=>by rw[run_slice_string_h (P:=Tryz.prog) W 9 s Tryz.underlying9 .i64 _ (by omega) (by omega),Int.toNat_natCast]
      cases hsp:z0l (s.data.toList.take k) with
      |some x=>obtain⟨x1,x2⟩:=x;rw[hsp] at P1;have hk2:=HIS.out k h0 hk ⟨_,hsp⟩ hno.out;have HK:=hide hk2;have HP1:=hide P1;clear hk2 P1 hsp d1 hz;go_wp2_with (go_at_call 99;refine(HP1.out _).mono ?_;rintro e w1 ⟨rfl,f1⟩);go_ret;exact⟨by rw[←HK.out];rfl,hfr.out.trans f1⟩
      |none=>
       rw[hsp] at P1
       have HN:=hide (show ∀j,k - 1<j→j≤64→z0l (s.data.toList.take j)=none from fun j h1 h2=>by
        rcases Nat.lt_or_ge k j with h|h
        · exact hno.out j h h2
        · obtain rfl:j=k:=by omega
          exact hsp)
       have HP1:=hide P1;clear P1 hsp d1 hz;go_wp2_with (go_at_call 99;refine(HP1.out _).mono ?_;rintro e w1 ⟨rfl,f1⟩);go_roundw
       case rel=>exact⟨k - 1,by first|go_num|(congr 1;omega),by omega,hide (hfr.out.trans f1),HN⟩
       case measure=>simp[Go.RowKit.intOf];omega
    · obtain rfl:k=0:=by omega
      have HG:=hide (HZ.out hno.out);clear h0;go_wp2_with fail;go_ret;exact⟨by rw[HG.out];rfl,hfr.out⟩
end Go.Proofs.YtnlacmnoocigiaaGreatDoor
