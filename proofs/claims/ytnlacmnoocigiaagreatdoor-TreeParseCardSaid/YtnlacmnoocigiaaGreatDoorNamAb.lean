/- name: class, length, Begin. -/
import Derived.Test.YtnlacmnoocigiaaGreatDoorProg
import Derived.Test.YtnlacmnoocigiaaGreatDoorBaseSt
import Derived.Test.YtnlacmnoocigiaaGreatDoorTokPa
import Derived.Deep.QuietTactic
import Derived.BigQuiet
import Derived.Deep.RegionLaw
import Derived.Deep.RegionHeld3
import Derived.Deep.DrawnRows
import Derived.WalkLawsBesides
import Derived.WalkSpells
import Derived.Deep.DeepFit
namespace Go.Proofs.YtnlacmnoocigiaaGreatDoor
open Go.RowKit Go.Lib
attribute [local go_sem ↓] Go.wp_at_zero Go.wp_at_succ
theorem zw6 (b:UInt8):∃o:Int,bits .or .u8 (b.toNat:Int) 32=o∧((97≤o∧o≤122)↔((65≤b.toNat∧b.toNat≤90)∨(97≤b.toNat∧b.toNat≤122))):=by
 have:∀k:Fin 256,(97≤bits .or .u8 ((k.val:Nat):Int) 32∧bits .or .u8 ((k.val:Nat):Int) 32≤122)↔((65≤k.val∧k.val≤90)∨(97≤k.val∧k.val≤122)):=by decide+kernel
 exact⟨_,rfl,this ⟨b.toNat,UInt8.toNat_lt b⟩⟩
theorem zos (b:UInt8):isF b=true↔((65≤b.toNat∧b.toNat≤90)∨(97≤b.toNat∧b.toNat≤122))∨b.toNat=95:=by unfold isF;simp only[Bool.or_eq_true,Bool.and_eq_true,decide_eq_true_eq]
theorem zot (b:UInt8):isL b=true↔isF b=true∨((48≤b.toNat∧b.toNat≤57)∨b.toNat=45)∨b.toNat=46:=by unfold isL;simp only[Bool.or_eq_true,Bool.and_eq_true,decide_eq_true_eq,or_assoc]
def clsV (b:UInt8):Int:=if isF b=true then 1 else if isL b=true then 2 else 0
theorem z8s (b:UInt8)(w:World):Calls Tryz.prog 164 #[.int .u8 (b.toNat:Int)] w fun e w'=>e=.returned (.int .u8 (clsV b))∧w=w':=by
 obtain⟨o,ho,hiff⟩:=zw6 b;have hb:=UInt8.toNat_lt b;have hF:=zos b;have hL:=zot b;unfold clsV;by_cases h1:97≤o∧o≤122
 · rw[if_pos (hF.2 (.inl (hiff.1 h1)))];obtain⟨a1,a2⟩:=h1;clear hiff hF hL;go_enter Tryz.func164,Tryz.ntmps164;go_wp2;go_ret;exact⟨rfl,rfl⟩
 · have hn:¬(((65≤b.toNat∧b.toNat≤90)∨(97≤b.toNat∧b.toNat≤122))):=fun h=>h1 (hiff.2 h);by_cases h95:b.toNat=95
   · rw[if_pos (hF.2 (.inr h95))];obtain rfl:b=95:=UInt8.toNat_inj.1 h95;clear hiff hF hL;have hc:(decide (97≤o) && decide (o≤122))=false:=by rw[←Bool.decide_and];exact decide_eq_false h1
     rcases (show o<97∨(97≤o∧122<o) by omega) with a1|⟨a1,a2⟩
     all_goals
      clear hc h1 hn;go_enter Tryz.func164,Tryz.ntmps164;go_wp2;go_ret;exact⟨rfl,rfl⟩
   · rw[if_neg (fun h=>(hF.1 h).elim hn h95)];have hnF:¬isF b=true:=fun h=>(hF.1 h).elim hn h95;have e95:((b.toNat:Int)==95)=false:=by rw[beq_eq_false_iff_ne];omega
     have hoc:o<97∨(97≤o∧122<o):=by omega
     by_cases hl:(48≤b.toNat∧b.toNat≤57)∨b.toNat=45∨b.toNat=46
     · rw[if_pos (hL.2 (.inr (by omega)))];rcases hl with ⟨l1,l2⟩|l1|l1
       · have c1:(48:Int)≤b.toNat:=by omega
         have c2:(b.toNat:Int)≤57:=by omega
         clear hiff hF hL h1 hn h95 hnF l1 l2;rcases hoc with a1|⟨a1,a2⟩
         all_goals
          go_enter Tryz.func164,Tryz.ntmps164;go_wp2;go_ret;exact⟨rfl,rfl⟩
       · obtain rfl:b=45:=UInt8.toNat_inj.1 l1;clear hiff hF hL h1 hn h95 hnF l1 e95;rcases hoc with a1|⟨a1,a2⟩
         all_goals
          go_enter Tryz.func164,Tryz.ntmps164;go_wp2;go_ret;exact⟨rfl,rfl⟩
       · obtain rfl:b=46:=UInt8.toNat_inj.1 l1;clear hiff hF hL h1 hn h95 hnF l1 e95;rcases hoc with a1|⟨a1,a2⟩
         all_goals
          go_enter Tryz.func164,Tryz.ntmps164;go_wp2;go_ret;exact⟨rfl,rfl⟩
     · rw[if_neg (fun h=>by rcases hL.1 h with h|h;exact hnF h;exact hl (by omega))];have e45:((b.toNat:Int)==45)=false:=by rw[beq_eq_false_iff_ne];omega
       have e46:((b.toNat:Int)==46)=false:=by rw[beq_eq_false_iff_ne];omega
       have hlc:(b.toNat:Int)<48∨(48≤(b.toNat:Int)∧57<(b.toNat:Int)):=by omega
       clear hiff hF hL h1 hn h95 hnF hl;rcases hoc with a1|⟨a1,a2⟩
       all_goals
        rcases hlc with c1|⟨c1,c2⟩
        all_goals
         go_enter Tryz.func164,Tryz.ntmps164;go_wp2;go_ret;exact⟨rfl,rfl⟩
theorem z0y (s:ByteArray)(p:Nat)(h:p<s.size):s.data.toList[p]? =some s[p]:=by have hl:p<s.data.toList.length:=h;rw[List.getElem?_eq_getElem hl];rfl
theorem zgb {l:List UInt8}{k:Nat}{b:UInt8}(h0:0<lenN l)(hk:k≤lenN l)(hb:l[k]? =some b):(isL b=true→k+1≤lenN l)∧(isL b=false→k=lenN l):=by
 constructor
 · intro hL;rcases Nat.lt_or_ge k (lenN l) with h|h
   · exact h
   · obtain rfl:k=lenN l:=by omega
     rw[ztd l b h0 hb] at hL;cases hL
 · intro hL;rcases Nat.lt_or_ge k (lenN l) with h|h
   · obtain⟨c,hc,hcL⟩:=zan l k h;rw[hb] at hc;cases hc;rw[hL] at hcL;cases hcL
   · omega
theorem z3k {s:ByteArray}(h:0<s.size):s.toList.isEmpty=false∧¬s.toList=[]:=by
 have h1:s.toList.length=s.size:=by simp[ByteArray.toList_eq]
 have h2:s.toList≠[]:=fun e=>by rw[e] at h1;simp at h1;omega
 exact⟨by simpa using h2,h2⟩
set_option maxHeartbeats 1000000 in
theorem z9f (s:ByteArray)(w:World)(hs:s.size≤1000000):Calls Tryz.prog 151 #[.string s] w fun e w'=>e=.returned (.int .i64 (lenN s.data.toList))∧w=w':=by
 have hsz:s.data.toList.length=s.size:=rfl;by_cases h0:0<s.size
 · obtain⟨hE,hE2⟩:=z3k h0;have hcons:s.data.toList=(s[0]'h0)::s.data.toList.drop 1:=by have:=List.drop_eq_getElem_cons (l:=s.data.toList) (i:=0) h0;exact this
   by_cases hF:isF (s[0]'h0)=true
   · have hp:1≤lenN s.data.toList:=by rw[hcons,z2n,if_pos hF];omega
     have hc1:clsV (s[0]'h0)=1:=by unfold clsV;rw[if_pos hF]
     have HP:=hide hp;have HC1:=hide hc1;clear hcons hF hc1 hp;go_enter Tryz.func151,Tryz.ntmps151;go_wp2_with (go_at_call 164;refine(z8s _ _).mono ?_;rw[HC1.out];rintro e w1 ⟨rfl,rfl⟩);go_loop [3] (fun n=>∃k:Nat,n=.int .i64 k∧k≤s.size∧1≤k∧Hid (k≤lenN s.data.toList)) (fun n=>s.size - (Go.RowKit.intOf n).toNat)
     case atStart=>exact⟨1,rfl,by omega,by omega,HP⟩
     case round=>
      obtain⟨k,rfl,hk,hk1,hkl⟩:=hrel;by_cases hlt:k<s.size
      · have hi:(k:Int)<s.size:=by omega
        obtain⟨g1,g2⟩:=zgb (Nat.lt_of_lt_of_le Nat.zero_lt_one HP.out) hkl.out (z0y s k hlt)
        cases hL:isL (s[k]'hlt) with
        |true=>
         have HG:=hide (g1 hL)
         have hc:clsV (s[k]'hlt)=1∨clsV (s[k]'hlt)=2:=by
          unfold clsV;rw[if_pos hL];split
          · exact .inl rfl
          · exact .inr rfl
         clear g1 g2 hL hsz;rcases hc with hc|hc
         all_goals
          have HC:=hide hc;clear hc;go_wp2_with (go_at_call 164;refine(z8s _ _).mono ?_;rw[HC.out];rintro e w2 ⟨rfl,rfl⟩);go_round
          case rel=>exact⟨k+1,by go_num,by omega,by omega,HG⟩
          case measure=>simp[Go.RowKit.intOf];omega
        |false=>
         have HG:=hide (g2 hL);have hc:clsV (s[k]'hlt)=0:=by unfold clsV;rw[if_neg (fun h=>by rw[z9i h] at hL;cases hL),if_neg (by rw[hL];decide)]
         have HC:=hide hc;clear g1 g2 hL hc hsz;go_wp2_with (go_at_call 164;refine(z8s _ _).mono ?_;rw[HC.out];rintro e w2 ⟨rfl,rfl⟩);go_ret;exact⟨by rw[←HG.out];rfl,rfl⟩
      · have hkk:k=lenN s.data.toList:=by have:=z5c s.data.toList;have:=hkl.out;omega
        have HG:=hide hkk;have hi:¬(k:Int)<s.size:=by omega
        have hi2:decide ((k:Int)<s.size)=false:=decide_eq_false hi;clear hkk hsz;go_wp2_with fail;go_ret;exact⟨by rw[←HG.out];rfl,rfl⟩
   · have hz:lenN s.data.toList=0:=by rw[hcons,z2n,if_neg hF]
     rw[hz]
     have hc:clsV (s[0]'h0)=0∨clsV (s[0]'h0)=2:=by
      unfold clsV;rw[if_neg hF];split
      · exact .inr rfl
      · exact .inl rfl
     clear hcons hF hz hsz;rcases hc with hc|hc
     all_goals
      have HC:=hide hc;clear hc;go_enter Tryz.func151,Tryz.ntmps151;go_wp2_with (go_at_call 164;refine(z8s _ _).mono ?_;rw[HC.out];rintro e w1 ⟨rfl,rfl⟩);go_ret;exact⟨rfl,rfl⟩
 · have hz:s.data.toList=[]:=List.eq_nil_of_length_eq_zero (by omega)
   obtain rfl:s=⟨#[]⟩:=by
    cases s with
    |mk d=>congr 1;exact Array.toList_inj.1 hz
   clear hz hsz h0;go_enter Tryz.func151,Tryz.ntmps151;go_wp2;go_ret;exact⟨rfl,rfl⟩
end Go.Proofs.YtnlacmnoocigiaaGreatDoor
namespace Go.Proofs.YtnlacmnoocigiaaGreatDoor
open Go.RowKit Go.Lib
attribute [local go_sem ↓] Go.wp_at_zero Go.wp_at_succ
theorem z08 (s:ByteArray)(a b:Nat):(s.extract a b).data.toList=(s.data.toList.drop a).take (b - a):=by rw[ByteArray.data_extract,Array.toList_extract]
theorem z8t {s:ByteArray}{k:Nat}(h:k<s.size){b:UInt8}(hb:s.data.toList[k]? =some b):s[k]=b:=by rw[z0y s k h] at hb;exact Option.some.inj hb
set_option maxHeartbeats 2000000 in
theorem zou (s:ByteArray)(w:World)(hs:s.size≤1000000):Calls Tryz.prog 136 #[.string s] w fun e w'=>e=.returned (.int .i64 (z03 s.data.toList))∧w=w':=by
 have hsz:s.data.toList.length=s.size:=rfl;obtain⟨r,hr⟩:∃r,z03 s.data.toList=r:=⟨_,rfl⟩;have hd0:∀t:ByteArray,t.data.toList=s.data.toList.take 64→z03 s.data.toList=if lenN t.data.toList=0∨t.data.toList[lenN t.data.toList]? ≠some 58∨lenN (t.data.toList.drop (lenN t.data.toList+1))=0 then lenN t.data.toList else lenN t.data.toList+1+lenN (t.data.toList.drop (lenN t.data.toList+1)):=fun t htl=>by rw[htl];unfold z03;rfl
 have key:∀t:ByteArray,t.data.toList=s.data.toList.take 64→t.size≤64→((t=s∧(s.size:Int)≤64)∨(64<(s.size:Int)∧∀W:World,(Instr.slice 9 (.string s) none (some (.int .i64 64)) none).run Tryz.prog W=.ok (.string t) W))→
  Calls Tryz.prog 136 #[.string s] w fun e w'=>e=.returned (.int .i64 (z03 s.data.toList))∧w=w':=by
  intro t htl ht64 hc;have hd:=hd0 t htl;have htz:t.data.toList.length=t.size:=rfl;have HL:=hide (z9f t w (by omega));have hle:=z5c t.data.toList;rw[htz] at hle;rw[hr] at hd⊢;clear hr htl hd0;have HC:=hide hc;clear hc;by_cases h0:lenN t.data.toList=0
  · rw[if_pos (.inl h0),h0] at hd;subst hd;rw[h0] at HL;clear h0 hle;rcases HC.out with ⟨rfl,hle64⟩|⟨hgt,hsl⟩
    all_goals
     go_enter Tryz.func136,Tryz.ntmps136;go_wp2_with (go_at_call 151;refine HL.out.mono ?_;rintro e w1 ⟨rfl,rfl⟩);go_ret;exact⟨rfl,rfl⟩
  · obtain⟨n,hn⟩:∃n,lenN t.data.toList=n:=⟨_,rfl⟩;rw[hn] at hd hle HL h0;have e0:((n:Int)==0)=false:=by rw[beq_eq_false_iff_ne];omega
    have e0':¬(n:Int)=0:=by omega
    by_cases hnt:n<t.size
    · have hnti:(n:Int)<t.size:=by omega
      have hg:t.data.toList[n]? =some (t[n]'hnt):=z0y t n hnt;by_cases h58:t[n]'hnt=58
      · have h58i:((t[n]'hnt).toNat:Int)=58:=by rw[h58];rfl
        rw[hg,h58] at hd;obtain⟨u,hu⟩:∃u:ByteArray,u=t.extract (n+1) t.size:=⟨_,rfl⟩;have hul:u.data.toList=t.data.toList.drop (n+1):=by rw[hu,z08,List.take_of_length_le (by rw[List.length_drop];omega)]
        have hus:u.size≤1000000:=by have:u.data.toList.length=u.size:=rfl;rw[hul,List.length_drop] at this;omega
        have hsl2:∀W:World,(Instr.slice 9 (.string t) (some (.int .i64 ((n:Int)+1))) none none).run Tryz.prog W=.ok (.string u) W:=fun W=>by rw[show (n:Int)+1=((n+1:Nat):Int) by omega,run_slice_string_l (P:=Tryz.prog) W 9 t Tryz.underlying9 .i64 _ (by omega) (by omega),Int.toNat_natCast,hu]
        have HS2:=hide hsl2;have HM:=hide (z9f u w hus);rw[←hul] at hd;have hml:=z5c u.data.toList;have huz:u.data.toList.length=u.size:=rfl;rw[huz] at hml;obtain⟨m,hm⟩:∃m,lenN u.data.toList=m:=⟨_,rfl⟩;rw[hm] at HM hd hml;clear hsl2 hul hu hg h58 hm hn htz huz;by_cases hm0:m=0
        · subst hm0;rw[if_pos (by simp)] at hd;subst hd;clear h0;rcases HC.out with ⟨rfl,hle64⟩|⟨hgt,hsl⟩
          all_goals
           go_enter Tryz.func136,Tryz.ntmps136;have hsl2:=HS2.out;go_wp2_with (go_at_call 151;(first|go_fit HL.out|go_fit HM.out);rintro e w1 ⟨rfl,rfl⟩);go_ret;exact⟨rfl,rfl⟩
        · rw[if_neg (by simp[h0,hm0])] at hd;subst hd;have hmp:(0:Int)<m:=by omega
          clear h0;rcases HC.out with ⟨rfl,hle64⟩|⟨hgt,hsl⟩
          all_goals
           go_enter Tryz.func136,Tryz.ntmps136;have hsl2:=HS2.out;go_wp2_with (go_at_call 151;(first|go_fit HL.out|go_fit HM.out);rintro e w1 ⟨rfl,rfl⟩);go_ret;refine⟨?_,rfl⟩;show Ending.returned (.int .i64 ((n:Int)+1+m))=_;congr 2
      · have h58i:(((t[n]'hnt).toNat:Int)==58)=false:=by rw[beq_eq_false_iff_ne];intro e;exact h58 (UInt8.toNat_inj.1 (by show _=58;omega))
        have h58j:(((t[n]'hnt).toNat:Int) !=58)=true:=by rw[bne,h58i];rfl
        clear h58i;rw[hg,if_pos (.inr (.inl (by simpa using h58)))] at hd;subst hd;clear h0 hg h58 hn;rcases HC.out with ⟨rfl,hle64⟩|⟨hgt,hsl⟩
        all_goals
         go_enter Tryz.func136,Tryz.ntmps136;go_wp2_with (go_at_call 151;refine HL.out.mono ?_;rintro e w1 ⟨rfl,rfl⟩);go_ret;exact⟨rfl,rfl⟩
    · have hnti:(t.size:Int)≤n:=by omega
      rw[if_pos (.inr (.inl (by rw[List.getElem?_eq_none (by omega)];simp)))] at hd;subst hd;clear h0 hn;rcases HC.out with ⟨rfl,hle64⟩|⟨hgt,hsl⟩
      all_goals
       go_enter Tryz.func136,Tryz.ntmps136;go_wp2_with (go_at_call 151;refine HL.out.mono ?_;rintro e w1 ⟨rfl,rfl⟩);go_ret;exact⟨rfl,rfl⟩
 by_cases h64:s.size≤64
 · exact key s (by rw[List.take_of_length_le (by omega)]) h64 (.inl ⟨rfl,by omega⟩)
 · refine key (s.extract 0 64) (by rw[z08,List.drop_zero]) ?_ (.inr ⟨by omega,fun W=> ?_⟩)
   · show (s.extract 0 64).data.size≤64;rw[←Array.length_toList,z08,List.drop_zero,List.length_take];omega
   · rw[run_slice_string_h (P:=Tryz.prog) W 9 s Tryz.underlying9 .i64 64 (by omega) (by omega)];rfl
end Go.Proofs.YtnlacmnoocigiaaGreatDoor
