/- strings.ContainsAny at + - _, for a text of at most eight bytes. -/
import Derived.Test.YtnlacmnoocigiaaGreatDoorBldSm
import Derived.Outline
import Derived.WalkMore
import Derived.Lib.ConvBytes
import Derived.Laws.Strings3
import Derived.Laws.Closers25
import Derived.Laws.Closers25b
import Derived.BigCall
import Derived.BigGuard
import Derived.Deep.DeepFit
namespace Go.Proofs.YtnlacmnoocigiaaGreatDoor
open Go.RowKit Go.Lib
attribute [local go_sem ↓] Go.wp_at_zero Go.wp_at_succ
set_option maxRecDepth 100000 in
set_option maxHeartbeats 1000000 in
theorem zib (w:World):Calls Tryz.prog 162 #[.string ⟨#[43,45,95]⟩,.int .i32 65533] w fun e w'=>e=.returned (.int .i64 (-1))∧Fr (fun _=>False) w w':=by
 go_enter Tryz.func162,Tryz.ntmps162;go_wp2_with fail;go_loopw [5] (fun i wr=>∃p:Nat,p≤3∧wr.heap[w.heap.size]? =some (.stringIter ⟨#[43,45,95]⟩ p)∧Hid (Fr (fun _=>False) w wr)) (fun _ wr=>3 - wr.iterPos w.heap.size)
 case atStart=>exact⟨0,by omega,World.iter_heap w _ 0,Fr.alloc (Fr.refl _ _) _⟩
 case round=>
  obtain⟨p,hp,hit,hfr⟩:=hrel;have hpos0:=iterPos_of hit;by_cases h3:p<3
  · have hnx:∀ty,(Instr.next (.pointer (some ⟨w.heap.size,0,none⟩)) true ty).run Tryz.prog wr=_:=fun ty=>run_next_any_at wr w.heap.size ⟨#[43,45,95]⟩ p ty hit h3
    obtain⟨c,hd,hc⟩:∃c:Nat,Utf8.decode ⟨#[43,45,95]⟩ p=(c,1)∧c<128:=by
     have:p=0∨p=1∨p=2:=by omega
     rcases this with rfl|rfl|rfl
     · exact⟨43,by decide,by decide⟩
     · exact⟨45,by decide,by decide⟩
     · exact⟨95,by decide,by decide⟩
    have hit2:=iterAt_heap wr w.heap.size ⟨#[43,45,95]⟩ p (p+(Utf8.decode ⟨#[43,45,95]⟩ p).2) hit;have hf2:=hide (hfr.out.iterAt (k:=w.heap.size) (Nat.le_refl _) ⟨#[43,45,95]⟩ (p+(Utf8.decode ⟨#[43,45,95]⟩ p).2));simp only[hd] at hnx hit2 hf2;have hcb:((c:Int)==65533)=false:=by simp;omega
    clear hd hit;go_wp2_with fail;go_roundw
    case rel=>exact⟨p+1,by omega,hit2,hf2.out⟩
    case measure=>
     rw[hpos0,iterPos_of hit2];omega
  · obtain rfl:p=3:=by omega
    have hnx:∀ty,(Instr.next (.pointer (some ⟨w.heap.size,0,none⟩)) true ty).run Tryz.prog wr=_:=fun ty=>run_next_end_at wr w.heap.size ⟨#[43,45,95]⟩ 3 ty hit h3;go_wp2_with fail;go_ret;exact⟨rfl,hfr.out⟩
theorem zsq {r:Int}(h0:128≤r)(hv:(0≤r∧r<55296)∨(57343<r∧r≤1114111)):∃(P:ByteArray) (k:Nat),Utf8.encode r=P∧P.size=k∧(k=2∨k=3∨k=4)∧∀h:k - 1<P.size,128≤(P[k - 1]'h).toNat:=by
 have hn:Utf8.valid r=true:=by simp[Utf8.valid];omega
 unfold Utf8.encode;simp only[hn,if_true];rw[if_neg (by omega)];have hu:∀x:Nat,128≤(UInt8.ofNat (128+x % 64)).toNat:=fun x=>by rw[UInt8.toNat_ofNat'];omega
 split
 · exact⟨_,2,rfl,rfl,.inl rfl,fun _=>hu _⟩
 · split
   · exact⟨_,3,rfl,rfl,.inr (.inl rfl),fun _=>hu _⟩
   · exact⟨_,4,rfl,rfl,.inr (.inr rfl),fun _=>hu _⟩
theorem indexByte_none {B:UInt8}(hB:128≤B.toNat):∀(l:List UInt8),(l.all fun x=>decide (x.toNat<128))=true→Lib.indexByte l B= -1
 |[],_=>rfl
 |x::l,h=>by
  rw[List.all_cons,Bool.and_eq_true,decide_eq_true_eq] at h;have hx:(x==B)=false:=by rw[beq_eq_false_iff_ne];rintro rfl;omega
  unfold Lib.indexByte;rw[hx,indexByte_none hB l h.2];rfl
theorem z4y (S:ByteArray)(B:UInt8)(w:World)(hS:(S.data.toList.all fun x=>decide (x.toNat<128))=true)(hB:128≤B.toNat):
 Calls Tryz.prog 78 #[.string S,.int .u8 (B.toNat:Int)] w fun e w'=>e=.returned (.int .i64 (-1))∧w=w':=by
 refine(Tryz.strings_IndexByte S (B.toNat:Int) w).mono ?_;rintro e w' ⟨rfl,rfl⟩;rw[show ((B.toNat:Int)).toNat.toUInt8=B by simp,indexByte_none hB _ hS];exact⟨rfl,rfl⟩
set_option maxRecDepth 100000 in
set_option maxHeartbeats 4000000 in
theorem zfs (r:Int)(w:World)(h0:128≤r)(h3:r≠65533)(hv:(0≤r∧r<55296)∨(57343<r∧r≤1114111)):Calls Tryz.prog 162 #[.string ⟨#[43,45,95]⟩,.int .i32 r] w fun e w'=>e=.returned (.int .i64 (-1))∧Fr (fun _=>False) w w':=by
 obtain⟨P,k,hP,hsz,hk,hlast⟩:=zsq h0 hv;have e3:(r==65533)=false:=by simpa using h3
 have hlt:¬r<128:=by omega
 have h00:0≤r:=by omega
 have HV:=hide (Tryz.utf8_ValidRune r w);rw[show Lib.validRune r=true by simpa [Lib.validRune] using hv] at HV;clear hv;rcases hk with rfl|rfl|rfl
 · have h1:1<P.size:=by omega
   have hb:=hlast h1;have hbu:(P[1]'h1).toNat<256:=UInt8.toNat_lt _;clear hlast;simp only[Nat.add_one_sub_one] at hb;generalize hB:(P[1]'h1)=B at*;have hne:(((((⟨#[43,45,95]⟩:ByteArray)[1]'(by decide)).toNat:Nat):Int) !=(B.toNat:Int))=true:=by rw[show (((⟨#[43,45,95]⟩:ByteArray)[1]'(by decide)).toNat:Nat)=45 from rfl];simp;omega
   go_enter Tryz.func162,Tryz.ntmps162;go_wp2_with (go_at_call 169;refine HV.out.mono ?_;rintro e w1 ⟨rfl,rfl⟩)
   go_step3
   go_wp2_with fail
   refine wp_loop_rounds 1 ?_;rw[rounds_succ];go_wp2_with fail
   go_step3
   go_wp2_with fail
   go_quiet (fail)
   go_wp2_with fail
   have ew:IntKind.i64.wrap 2=2:=by decide
   go_quiet ((go_at_call 78;first|exact z7o (z4y _ _ _ (by decide) hb)|exact z1h (z4y _ _ _ (by decide) hb)))
   go_wp2_with fail
   simp only[Exit.noGoto_ret,Exit.inBlock,Exit.then];go_ret;exact⟨rfl,(Fr.refl _ _).drewN _⟩
 · have h1:2<P.size:=by omega
   have hb:=hlast h1;have hbu:(P[2]'h1).toNat<256:=UInt8.toNat_lt _;clear hlast;simp only[Nat.reduceSub] at hb;generalize hB:(P[2]'h1)=B at*;have hne:(((((⟨#[43,45,95]⟩:ByteArray)[2]'(by decide)).toNat:Nat):Int) !=(B.toNat:Int))=true:=by rw[show (((⟨#[43,45,95]⟩:ByteArray)[2]'(by decide)).toNat:Nat)=95 from rfl];simp;omega
   go_enter Tryz.func162,Tryz.ntmps162;go_wp2_with (go_at_call 169;refine HV.out.mono ?_;rintro e w1 ⟨rfl,rfl⟩)
   go_step3
   go_wp2_with fail
   refine wp_loop_rounds 1 ?_;rw[rounds_succ];go_wp2_with fail
   go_step3
   go_wp2_with fail
   go_quiet (fail)
   go_wp2_with fail
   have ew:IntKind.i64.wrap 3=3:=by decide
   go_quiet ((go_at_call 78;first|exact z7o (z4y _ _ _ (by decide) hb)|exact z1h (z4y _ _ _ (by decide) hb)))
   go_wp2_with fail
   simp only[Exit.noGoto_ret,Exit.inBlock,Exit.then];go_ret;exact⟨rfl,(Fr.refl _ _).drewN _⟩
 · go_enter Tryz.func162,Tryz.ntmps162;go_wp2_with (go_at_call 169;refine HV.out.mono ?_;rintro e w1 ⟨rfl,rfl⟩)
   go_step3
   go_wp2_with fail
   refine wp_loop_rounds 1 ?_;rw[rounds_succ];go_wp2_with fail;repeat rw[Exit.noGoto_ret]
   go_ret;exact⟨rfl,Fr.refl _ _⟩
theorem zvz {n b0 b1 b2 b3:Nat}(h:(decodeN n b0 b1 b2 b3).1<128):decodeN n b0 b1 b2 b3=(b0,1)∧b0<128:=by
 unfold decodeN at h⊢;split at h
 · rename_i h1;rw[if_pos h1];exact⟨rfl,h1⟩
 · exfalso
   repeat' split at h
   all_goals (simp only at h;omega)
theorem zon (n b0 b1 b2 b3:Nat):let r:Int:=(decodeN n b0 b1 b2 b3).1;(0≤r∧r<55296)∨(57343<r∧r≤1114111):=by
 simp only;unfold decodeN
 repeat' split
 all_goals (simp only;omega)
theorem zsr (n b0 b1 b2 b3:Nat):1≤(decodeN n b0 b1 b2 b3).2:=by
 unfold decodeN
 repeat' split
 all_goals (simp only;omega)
def z6u (b:UInt8):Bool:=b==43||b==45||b==95
theorem zss (s:ByteArray)(p:Nat)(h:p<s.size):s.data.toList[p]? =some (s.get! p):=by obtain⟨d⟩:=s;have h':p<d.size:=h;show d.toList[p]? =some (d[p]!);rw[getElem!_pos d p h'];simp[h']
theorem zbk (b:UInt8):(z6u b=true∧0≤Lib.indexByte [43,45,95] b)∨(z6u b=false∧Lib.indexByte [43,45,95] b<0):=by
 unfold z6u;by_cases h1:b=43
 · subst h1;exact .inl ⟨by decide,by decide⟩
 · by_cases h2:b=45
   · subst h2;exact .inl ⟨by decide,by decide⟩
   · by_cases h3:b=95
     · subst h3;exact .inl ⟨by decide,by decide⟩
     · right;simp[h1,h2,h3,Lib.indexByte,Ne.symm h1,Ne.symm h2,Ne.symm h3]
theorem zst (s:ByteArray)(p:Nat)(h:p<s.size):∃n:Int,(0≤n→s.data.toList.any z6u=true)∧(n<0→p=0→∀x,s.data.toList[0]? =some x→z6u x=false)∧
 ∀W,Calls Tryz.prog 162 #[.string ⟨#[43,45,95]⟩,.int .i32 (Utf8.decode s p).1] W fun e w'=>e=.returned (.int .i64 n)∧Fr (fun _=>False) W w':=by
 have hb:=zss s p h;have hd:=decode_at s p;generalize s.get! p=b at*;by_cases hlo:(Utf8.decode s p).1<128
 · obtain⟨h1,h2⟩:=zvz (hd ▸ hlo);rw[hd,h1];simp only;refine⟨Lib.indexByte [43,45,95] b,fun hn=> ?_,fun hn h0 x hx=> ?_,fun W=>(Tryz.strings_IndexRune_ascii _ _ W (by omega) (by omega)).mono ?_⟩
   · rcases zbk b with ⟨g1,g2⟩|⟨g1,g2⟩
     · exact List.any_eq_true.2 ⟨b,List.mem_of_getElem? hb,g1⟩
     · omega
   · subst h0;rw[hb] at hx;injection hx with hx;subst hx;rcases zbk b with ⟨g1,g2⟩|⟨g1,g2⟩
     · omega
     · exact g1
   · rintro e w' ⟨rfl,rfl⟩;rw[show ((b.toNat:Nat):Int).toNat.toUInt8=b by simp];exact⟨rfl,Fr.refl _ _⟩
 · have hv:=zon (s.size - p) b.toNat (s.get! (p+1)).toNat (s.get! (p+2)).toNat (s.get! (p+3)).toNat;simp only at hv
   have hh:128≤b.toNat:=by
    rcases Nat.lt_or_ge b.toNat 128 with h1|h1
    · exfalso;apply hlo;rw[hd];unfold decodeN;rw[if_pos h1];exact h1
    · exact h1
   have hsb:z6u b=false:=by
    unfold z6u;have e1:b≠43:=fun e=>by subst e;revert hh;decide
    have e2:b≠45:=fun e=>by subst e;revert hh;decide
    have e3:b≠95:=fun e=>by subst e;revert hh;decide
    simp[e1,e2,e3]
   refine⟨-1,fun hn=>absurd hn (by decide),fun hn h0 x hx=> ?_,fun W=> ?_⟩
   · subst h0;rw[hb] at hx;injection hx with hx;subst hx;exact hsb
   · rw[hd] at hlo⊢;by_cases hbad:(decodeN (s.size - p) b.toNat (s.get! (p+1)).toNat (s.get! (p+2)).toNat (s.get! (p+3)).toNat).1=65533
     · rw[hbad];exact zib W
     · exact zfs _ W (by omega) (by omega) hv
set_option maxRecDepth 100000 in
set_option maxHeartbeats 4000000 in
theorem zec (s:ByteArray)(w:World)(h1:1≤s.size)(h8:s.size≤8):Calls Tryz.prog 158 #[.string s,.string ⟨#[43,45,95]⟩] w fun e w'=>
 ∃b:Bool,e=.returned (.bool b)∧(b=true→s.data.toList.any z6u=true)∧(b=false→∀x,s.data.toList[0]? =some x→z6u x=false)∧Fr (fun _=>False) w w':=by
 have h8z:decide ((8:Int)<(s.size:Int))=false:=decide_eq_false (by omega)
 have hA:Calls Tryz.prog 166 #[.string s,.string ⟨#[43,45,95]⟩] w fun e w'=>∃n:Int,e=.returned (.int .i64 n)∧(0≤n→s.data.toList.any z6u=true)∧(n<0→∀x,s.data.toList[0]? =some x→z6u x=false)∧Fr (fun _=>False) w w':=by
  go_enter Tryz.func166,Tryz.ntmps166;go_wp2_with (go_at_call 170;refine(Tryz.strings_shouldUseASCIISet _ _).mono ?_;rintro e w' ⟨rfl,hw⟩;rw[hw,h8z]);go_loopw [9] (fun i wr=>∃p:Nat,p≤s.size+4∧wr.heap[w.heap.size]? =some (.stringIter s p)∧Hid (Fr (fun _=>False) w wr)∧Hid (1≤p→∀x,s.data.toList[0]? =some x→z6u x=false)) (fun _ wr=>s.size+4 - wr.iterPos w.heap.size)
  case atStart=>exact⟨0,by omega,World.iter_heap w _ 0,Fr.alloc (Fr.refl _ _) _,fun h=>absurd h (by omega)⟩
  case round=>
   obtain⟨p,hp,hit,hfr,hno⟩:=hrel;have hpos0:=iterPos_of hit;by_cases hps:p<s.size
   · have hnx:∀ty,(Instr.next (.pointer (some ⟨w.heap.size,0,none⟩)) true ty).run Tryz.prog wr=_:=fun ty=>run_next_any_at wr w.heap.size s p ty hit hps;have hit2:=iterAt_heap wr w.heap.size s p (p+(Utf8.decode s p).2) hit;have hf2:=hide (hfr.out.iterAt (k:=w.heap.size) (Nat.le_refl _) s (p+(Utf8.decode s p).2));obtain⟨n,g1,g2,g3⟩:=zst s p hps;have hw1:1≤(Utf8.decode s p).2:=by rw[decode_at];exact zsr _ _ _ _ _
     have hw4:(Utf8.decode s p).2≤4:=by
      rw[decode_at];unfold decodeN
      repeat' split
      all_goals (simp only;omega)
     have G1:=hide g1;have G2:=hide g2;have G3:=hide g3;clear g1 g2 g3 hit;obtain⟨c,wd,hd⟩:∃c wd,Utf8.decode s p=(c,wd):=⟨_,_,rfl⟩;simp only[hd] at hnx hit2 hf2 G3 hw1 hw4;clear hd;by_cases hn:0≤n
     · go_wp2_with (go_at_call 162;refine(G3.out _).mono ?_;rintro e w1 ⟨rfl,f1⟩)
       go_ret;exact⟨_,rfl,fun _=>G1.out hn,fun h=>absurd h (by omega),hf2.out.trans f1⟩
     · go_wp2_with (go_at_call 162;refine(G3.out _).mono ?_;rintro e w1 ⟨rfl,f1⟩)
       go_roundw
       case rel=>exact⟨p+wd,by omega,(f1.block w.heap.size (lt_of_block hit2) (fun h=>h)).trans hit2,hf2.out.trans f1,fun _=>by
        by_cases h0:p=0
        · exact G2.out (by omega) h0
        · exact hno.out (by omega)⟩
       case measure=>
        rw[hpos0,iterPos_of ((f1.block w.heap.size (lt_of_block hit2) (fun h=>h)).trans hit2)];omega
   · have hnx:∀ty,(Instr.next (.pointer (some ⟨w.heap.size,0,none⟩)) true ty).run Tryz.prog wr=_:=fun ty=>run_next_end_at wr w.heap.size s p ty hit hps;go_wp2_with fail;go_ret;exact⟨_,rfl,fun h=>absurd h (by decide),fun _=>hno.out (by omega),hfr.out⟩
 go_enter Tryz.func158,Tryz.ntmps158;go_wp2_with (go_at_call 166;refine hA.mono ?_;rintro e w1 ⟨n,rfl,k1,k2,f1⟩);go_ret;exact⟨_,rfl,fun h=>k1 (by simpa using h),fun h=>k2 (by simpa using h),f1⟩
end Go.Proofs.YtnlacmnoocigiaaGreatDoor
namespace Go.Proofs.YtnlacmnoocigiaaGreatDoor
open Go.RowKit Go.Lib
attribute [local go_sem ↓] Go.wp_at_zero Go.wp_at_succ
def lwN (n:Nat):Nat:=if n / 32 % 2=1 then n else n+32
theorem zw0 (n:Nat)(h:n<256):bits .or .u8 (n:Int) 32=lwN n:=by
 have:∀k:Fin 256,bits .or .u8 ((k.val:Nat):Int) 32=lwN k.val:=by decide+kernel
 exact this ⟨n,h⟩
theorem z6v (b:UInt8)(w:World):Calls Tryz.prog 176 #[.int .u8 (b.toNat:Int)] w fun e w'=>e=.returned (.int .u8 (lwN b.toNat:Nat))∧w=w':=by have h:=zw0 b.toNat (UInt8.toNat_lt _);go_enter Tryz.func176,Tryz.ntmps176;go_wp2;go_ret;exact⟨rfl,rfl⟩
theorem zft (base:Int)(hb:base=10∨base=16)(c:UInt8):
 (48≤c.toNat∧c.toNat≤57∧digB base c=true∧digV c=(c.toNat:Int) - 48)∨
 (¬(48≤c.toNat∧c.toNat≤57)∧c.toNat≠95∧97≤lwN c.toNat∧lwN c.toNat≤122∧(lwN c.toNat:Int) - 87<base∧digB base c=true∧digV c=(lwN c.toNat:Int) - 87)∨
 (¬(48≤c.toNat∧c.toNat≤57)∧c.toNat≠95∧97≤lwN c.toNat∧lwN c.toNat≤122∧base≤(lwN c.toNat:Int) - 87∧digB base c=false)∨
 (¬(48≤c.toNat∧c.toNat≤57)∧¬(97≤lwN c.toNat∧lwN c.toNat≤122)∧digB base c=false):=by
 have hc:=UInt8.toNat_lt c;generalize hn:c.toNat=n at*;have hv:digV c=if 48≤n∧n≤57 then(n:Int) - 48 else if 97≤n∧n≤102 then(n:Int) - 87 else if 65≤n∧n≤70 then(n:Int) - 55 else -1:=by unfold digV;rw[hn]
 have hl:lwN n=if n / 32 % 2=1 then n else n+32:=rfl;simp only[digB,decide_eq_true_eq,decide_eq_false_iff_not,hv];generalize lwN n=m at*;split at hl
 all_goals
  split
  · omega
  · split
    · rcases hb with rfl|rfl<;>omega
    · split
      · rcases hb with rfl|rfl<;>omega
      · rcases hb with rfl|rfl<;>omega
theorem zbl (base:Int)(b:UInt8)(t:List UInt8)(n:Int):valL base (b::t) n=valL base t (n*base+digV b):=rfl
section
set_option maxRecDepth 100000
set_option maxHeartbeats 8000000
theorem zed (base:Int)(hb:base=10∨base=16)(t:ByteArray)(w:World)(h1:1≤t.size)(h7:t.size≤7):
 Calls Tryz.prog 171 #[.string t,.int .i64 base,.int .i64 64] w fun e w'=>
  e=.returned (if t.data.toList.all (digB base)=true then .tuple #[.int .u64 (valL base t.data.toList 0),.nilIface] else .tuple #[.int .u64 0,.iface 227 (.int .i64 2)])∧
  Fr (fun _=>False) w w'∧(t.data.toList.all (digB base)=true→0≤valL base t.data.toList 0∧valL base t.data.toList 0<268435456):=by
 have hE:=z2c h1;have hE2:=z6d h1;have hcv:=Lib.run_convert_string_bytes (P:=Tryz.prog) w 9 87 5 t (u:=.string) Tryz.underlying9 Tryz.underlying87 Tryz.underlying5;have hB:∀j,j<t.size→(Lib.bytesWorld w 5 t).cell? ⟨w.heap.size,j,none⟩=some (.int .u8 (t.data.toList.getD j 0).toNat):=fun j hj=>Lib.bytesWorld_cell w 5 t j hj;have hF:Fr (fun _=>False) w (Lib.bytesWorld w 5 t):=⟨rfl,rfl,rfl,by rw[Lib.bytesWorld_size];omega,fun k hk _=>Lib.bytesWorld_at_old w 5 t k hk⟩;obtain⟨W1,hW1⟩:∃W1,W1=Lib.bytesWorld w 5 t:=⟨_,rfl⟩;rw[←hW1] at hcv hB hF;clear hW1;obtain⟨bs,hL⟩:∃bs,bs=t.data.toList:=⟨_,rfl⟩;have hLn:bs.length=t.size:=by rw[hL,Lib.size_eq]
 rw[←hL] at hB⊢;clear hL;obtain⟨R,hR⟩:∃R:Value,(if bs.all (digB base)=true then .tuple #[.int .u64 (valL base bs 0),.nilIface] else .tuple #[.int .u64 0,.iface 227 (.int .i64 2)])=R:=⟨_,rfl⟩;obtain⟨Z,hZ⟩:∃Z:Prop,(bs.all (digB base)=true→0≤valL base bs 0∧valL base bs 0<268435456)=Z:=⟨_,rfl⟩;rw[hR,hZ];have HR:=hide hR;have HZ:=hide hZ;have HF:=hide hF;clear hR hZ hF;have hmv:IntKind.u64.wrap (IntKind.u64.wrap 18446744073709551616 - 1)=18446744073709551615:=by rw[IntKind.wrap_u64,IntKind.wrap_u64];decide
 have hpow:∀k,k≤6→(16:Int) ^ k≤16777216:=by
  intro k hk
  match k,hk with
  |0,_=>decide
  |1,_=>decide
  |2,_=>decide
  |3,_=>decide
  |4,_=>decide
  |5,_=>decide
  |6,_=>decide
 have HP:=hide hpow;clear hpow;rcases hb with rfl|rfl
 · have HC:=hide (fun c=>zft 10 (by decide) c);go_enter Tryz.func171,Tryz.ntmps171;go_wp2;go_loop [12,13,101] (fun vu vn vi=>∃(k:Nat) (a:Int),vu=.bool false∧vn=.int .u64 a∧vi=.int .i64 k∧k≤t.size∧0≤a∧Hid (a<16 ^ k∧valL 10 bs 0=valL 10 (bs.drop k) a∧bs.all (digB 10)=(bs.drop k).all (digB 10))) (fun _ _ vi=>t.size - (Go.RowKit.intOf vi).toNat)
   case atStart=>exact⟨0,0,rfl,rfl,rfl,by omega,by omega,by decide,rfl,rfl⟩
   case round=>
    obtain⟨k,a,rfl,rfl,rfl,hk,a0,hh⟩:=hrel;by_cases hkn:k<t.size
    · have hc:=hB k hkn;have hdrop:bs.drop k=bs[k]'(by omega)::bs.drop (k+1):=List.drop_eq_getElem_cons (by omega);have hget:bs.getD k 0=bs[k]'(by omega):=by simp[List.getD,List.getElem?_eq_getElem (show k<bs.length by omega)]
      have H3:=hh.out;rw[hdrop] at H3;rw[hget] at hc;generalize bs[k]'(by omega)=c at hc H3;have hp6:=HP.out k (by omega);have ab:a<16777216:=by omega
      have ap:a<16 ^ k:=H3.1;have H3:=hide H3.2;have AP:=hide ap;have hc256:(c.toNat:Int)<256:=by have:=c.toNat_lt;omega
      clear hB hdrop hget hp6 ap;rcases HC.out c with ⟨d1,d2,d3,d4⟩|⟨d1,d2,d3,d4,d5,d6,d7⟩|⟨d1,d2,d3,d4,d5,d6⟩|⟨d1,d2,d3⟩
      · have hd0:(48:Int)≤c.toNat:=by omega
        have hd1:(c.toNat:Int)≤57:=by omega
        have hne:¬(c.toNat:Int)=95:=by omega
        have icut:a<1844674407370955162:=by omega
        have iov:a*10+((c.toNat:Int) - 48)<18446744073709551616:=by omega
        have HN:=hide (show a*10+((c.toNat:Int) - 48)<16 ^ (k+1)∧valL 10 bs 0=valL 10 (bs.drop (k+1)) (a*10+((c.toNat:Int) - 48))∧bs.all (digB 10)=(bs.drop (k+1)).all (digB 10) from⟨by rw[Int.pow_succ];have:=AP.out;omega,by rw[H3.out.1,zbl,d4],by rw[H3.out.2,List.all_cons,d3,Bool.true_and]⟩);clear d1 d2 d3 d4;go_wp2;refine⟨⟨k+1,a*10+((c.toNat:Int) - 48),rfl,(by first|rfl|(congr 1;omega)),(by first|rfl|(congr 1;omega)),by omega,by omega,HN.out⟩,by simp[Go.RowKit.intOf];omega⟩
      · exact absurd d5 (by omega)
      · have h57:(57:Int)<c.toNat:=by unfold lwN at d3 d4;split at d3<;>omega
        have hne:¬(c.toNat:Int)=95:=by omega
        have HW:=hide (z6v c);have hl1:(97:Int)≤(lwN c.toNat:Nat):=by omega
        have hl2:((lwN c.toNat:Nat):Int)≤122:=by omega
        have hl3:10≤((lwN c.toNat:Nat):Int) - 97+10:=by omega
        generalize lwN c.toNat=L at*;have HA:=hide (show bs.all (digB 10)=false by rw[H3.out.2,List.all_cons,d6,Bool.false_and]);clear d1 d2 d3 d4 d5 d6;go_wp2_with (go_at_call 176;refine(HW.out _).mono ?_;rintro e w' ⟨rfl,rfl⟩)
        go_ret2
        exact⟨by rw[←HR.out,HA.out];rfl,HF.out,by rw[←HZ.out,HA.out];intro h;cases h⟩
      · have HW:=hide (z6v c);have HA:=hide (show bs.all (digB 10)=false by rw[H3.out.2,List.all_cons,d3,Bool.false_and]);have hcs:((c.toNat:Int)<48∧((lwN c.toNat:Nat):Int)<97∧¬(c.toNat:Int)=95)∨((57:Int)<c.toNat∧¬(c.toNat:Int)=95∧((lwN c.toNat:Nat):Int)<97)∨((57:Int)<c.toNat∧¬(c.toNat:Int)=95∧(122:Int)<(lwN c.toNat:Nat))∨((c.toNat:Int)=95∧(122:Int)<(lwN c.toNat:Nat)):=by unfold lwN at d2⊢;split at d2<;>simp only[*,if_true,if_false]<;>omega
        clear d1 d2 d3;generalize lwN c.toNat=L at*;rcases hcs with ⟨e1,e2,e3⟩|⟨e1,e2,e3⟩|⟨e1,e2,e3⟩|⟨e1,e2⟩
        · go_wp2_with (go_at_call 176;refine(HW.out _).mono ?_;rintro e w' ⟨rfl,rfl⟩)
          go_ret2
          exact⟨by rw[←HR.out,HA.out];rfl,HF.out,by rw[←HZ.out,HA.out];intro h;cases h⟩
        · go_wp2_with (go_at_call 176;refine(HW.out _).mono ?_;rintro e w' ⟨rfl,rfl⟩)
          go_ret2
          exact⟨by rw[←HR.out,HA.out];rfl,HF.out,by rw[←HZ.out,HA.out];intro h;cases h⟩
        · go_wp2_with (go_at_call 176;refine(HW.out _).mono ?_;rintro e w' ⟨rfl,rfl⟩)
          go_ret2
          exact⟨by rw[←HR.out,HA.out];rfl,HF.out,by rw[←HZ.out,HA.out];intro h;cases h⟩
        · have hc95:c.toNat=95:=by omega
          have HW2:Hid (∀W:World,Calls Tryz.prog 176 #[.int .u8 95] W fun e w'=>e=.returned (.int .u8 (L:Nat))∧W=w'):=fun W=>by have:=HW.out W;rw[hc95] at this;exact this
          rw[hc95] at hc;clear e1 hc95 hc256;go_wp2_with (go_at_call 176;refine(HW2.out _).mono ?_;rintro e w' ⟨rfl,rfl⟩)
          go_ret2
          exact⟨by rw[←HR.out,HA.out];rfl,HF.out,by rw[←HZ.out,HA.out];intro h;cases h⟩
    · obtain rfl:k=t.size:=by omega
      have H3:=hh.out;rw[List.drop_of_length_le (by omega)] at H3;have hp7:(16:Int) ^ t.size≤268435456:=by obtain⟨m,hm⟩:∃m,t.size=m+1:=⟨t.size - 1,by omega⟩;rw[hm,Int.pow_succ];have:=HP.out m (by omega);omega
      have H4:=hide (show bs.all (digB 10)=true∧valL 10 bs 0=a∧a<268435456 from⟨H3.2.2,H3.2.1,by have:=H3.1;omega⟩);clear H3 hp7;go_wp2
      go_ret2
      exact⟨by rw[←HR.out,H4.out.1,H4.out.2.1];rfl,HF.out,by rw[←HZ.out,H4.out.2.1];exact fun _=>⟨a0,H4.out.2.2⟩⟩
 · have HC:=hide (fun c=>zft 16 (by decide) c);go_enter Tryz.func171,Tryz.ntmps171;go_wp2;go_loop [12,13,101] (fun vu vn vi=>∃(k:Nat) (a:Int),vu=.bool false∧vn=.int .u64 a∧vi=.int .i64 k∧k≤t.size∧0≤a∧Hid (a<16 ^ k∧valL 16 bs 0=valL 16 (bs.drop k) a∧bs.all (digB 16)=(bs.drop k).all (digB 16))) (fun _ _ vi=>t.size - (Go.RowKit.intOf vi).toNat)
   case atStart=>exact⟨0,0,rfl,rfl,rfl,by omega,by omega,by decide,rfl,rfl⟩
   case round=>
    obtain⟨k,a,rfl,rfl,rfl,hk,a0,hh⟩:=hrel;by_cases hkn:k<t.size
    · have hc:=hB k hkn;have hdrop:bs.drop k=bs[k]'(by omega)::bs.drop (k+1):=List.drop_eq_getElem_cons (by omega);have hget:bs.getD k 0=bs[k]'(by omega):=by simp[List.getD,List.getElem?_eq_getElem (show k<bs.length by omega)]
      have H3:=hh.out;rw[hdrop] at H3;rw[hget] at hc;generalize bs[k]'(by omega)=c at hc H3;have hp6:=HP.out k (by omega);have ab:a<16777216:=by omega
      have ap:a<16 ^ k:=H3.1;have H3:=hide H3.2;have AP:=hide ap;have hc256:(c.toNat:Int)<256:=by have:=c.toNat_lt;omega
      clear hB hdrop hget hp6 ap;rcases HC.out c with ⟨d1,d2,d3,d4⟩|⟨d1,d2,d3,d4,d5,d6,d7⟩|⟨d1,d2,d3,d4,d5,d6⟩|⟨d1,d2,d3⟩
      · have hd0:(48:Int)≤c.toNat:=by omega
        have hd1:(c.toNat:Int)≤57:=by omega
        have hne:¬(c.toNat:Int)=95:=by omega
        have icut:a<1152921504606846976:=by omega
        have iov:a*16+((c.toNat:Int) - 48)<18446744073709551616:=by omega
        have HN:=hide (show a*16+((c.toNat:Int) - 48)<16 ^ (k+1)∧valL 16 bs 0=valL 16 (bs.drop (k+1)) (a*16+((c.toNat:Int) - 48))∧bs.all (digB 16)=(bs.drop (k+1)).all (digB 16) from⟨by rw[Int.pow_succ];have:=AP.out;omega,by rw[H3.out.1,zbl,d4],by rw[H3.out.2,List.all_cons,d3,Bool.true_and]⟩);clear d1 d2 d3 d4;go_wp2;refine⟨⟨k+1,a*16+((c.toNat:Int) - 48),rfl,(by first|rfl|(congr 1;omega)),(by first|rfl|(congr 1;omega)),by omega,by omega,HN.out⟩,by simp[Go.RowKit.intOf];omega⟩
      · have h57:(57:Int)<c.toNat:=by unfold lwN at d3 d4;split at d3<;>omega
        have hne:¬(c.toNat:Int)=95:=by omega
        have HW:=hide (z6v c);have hl1:(97:Int)≤(lwN c.toNat:Nat):=by omega
        have hl2:((lwN c.toNat:Nat):Int)≤122:=by omega
        have hl3:((lwN c.toNat:Nat):Int) - 97+10<16:=by omega
        generalize lwN c.toNat=L at*;have icut:a<1152921504606846976:=by omega
        have iov:a*16+((L:Int) - 97+10)<18446744073709551616:=by omega
        have HN:=hide (show a*16+((L:Int) - 97+10)<16 ^ (k+1)∧valL 16 bs 0=valL 16 (bs.drop (k+1)) (a*16+((L:Int) - 97+10))∧bs.all (digB 16)=(bs.drop (k+1)).all (digB 16) from⟨by rw[Int.pow_succ];have:=AP.out;omega,by rw[H3.out.1,zbl,d7,show (L:Int) - 97+10=L - 87 by omega],by rw[H3.out.2,List.all_cons,d6,Bool.true_and]⟩);clear d1 d2 d3 d4 d5 d6 d7;go_wp2_with (go_at_call 176;refine(HW.out _).mono ?_;rintro e w' ⟨rfl,rfl⟩);refine⟨⟨k+1,a*16+((L:Int) - 97+10),rfl,(by first|rfl|(congr 1;omega)),(by first|rfl|(congr 1;omega)),by omega,by omega,HN.out⟩,by simp[Go.RowKit.intOf];omega⟩
      · have h57:(57:Int)<c.toNat:=by unfold lwN at d3 d4;split at d3<;>omega
        have hne:¬(c.toNat:Int)=95:=by omega
        have HW:=hide (z6v c);have hl1:(97:Int)≤(lwN c.toNat:Nat):=by omega
        have hl2:((lwN c.toNat:Nat):Int)≤122:=by omega
        have hl3:16≤((lwN c.toNat:Nat):Int) - 97+10:=by omega
        generalize lwN c.toNat=L at*;have HA:=hide (show bs.all (digB 16)=false by rw[H3.out.2,List.all_cons,d6,Bool.false_and]);clear d1 d2 d3 d4 d5 d6;go_wp2_with (go_at_call 176;refine(HW.out _).mono ?_;rintro e w' ⟨rfl,rfl⟩)
        go_ret2
        exact⟨by rw[←HR.out,HA.out];rfl,HF.out,by rw[←HZ.out,HA.out];intro h;cases h⟩
      · have HW:=hide (z6v c);have HA:=hide (show bs.all (digB 16)=false by rw[H3.out.2,List.all_cons,d3,Bool.false_and]);have hcs:((c.toNat:Int)<48∧((lwN c.toNat:Nat):Int)<97∧¬(c.toNat:Int)=95)∨((57:Int)<c.toNat∧¬(c.toNat:Int)=95∧((lwN c.toNat:Nat):Int)<97)∨((57:Int)<c.toNat∧¬(c.toNat:Int)=95∧(122:Int)<(lwN c.toNat:Nat))∨((c.toNat:Int)=95∧(122:Int)<(lwN c.toNat:Nat)):=by unfold lwN at d2⊢;split at d2<;>simp only[*,if_true,if_false]<;>omega
        clear d1 d2 d3;generalize lwN c.toNat=L at*;rcases hcs with ⟨e1,e2,e3⟩|⟨e1,e2,e3⟩|⟨e1,e2,e3⟩|⟨e1,e2⟩
        · go_wp2_with (go_at_call 176;refine(HW.out _).mono ?_;rintro e w' ⟨rfl,rfl⟩)
          go_ret2
          exact⟨by rw[←HR.out,HA.out];rfl,HF.out,by rw[←HZ.out,HA.out];intro h;cases h⟩
        · go_wp2_with (go_at_call 176;refine(HW.out _).mono ?_;rintro e w' ⟨rfl,rfl⟩)
          go_ret2
          exact⟨by rw[←HR.out,HA.out];rfl,HF.out,by rw[←HZ.out,HA.out];intro h;cases h⟩
        · go_wp2_with (go_at_call 176;refine(HW.out _).mono ?_;rintro e w' ⟨rfl,rfl⟩)
          go_ret2
          exact⟨by rw[←HR.out,HA.out];rfl,HF.out,by rw[←HZ.out,HA.out];intro h;cases h⟩
        · have hc95:c.toNat=95:=by omega
          have HW2:Hid (∀W:World,Calls Tryz.prog 176 #[.int .u8 95] W fun e w'=>e=.returned (.int .u8 (L:Nat))∧W=w'):=fun W=>by have:=HW.out W;rw[hc95] at this;exact this
          rw[hc95] at hc;clear e1 hc95 hc256;go_wp2_with (go_at_call 176;refine(HW2.out _).mono ?_;rintro e w' ⟨rfl,rfl⟩)
          go_ret2
          exact⟨by rw[←HR.out,HA.out];rfl,HF.out,by rw[←HZ.out,HA.out];intro h;cases h⟩
    · obtain rfl:k=t.size:=by omega
      have H3:=hh.out;rw[List.drop_of_length_le (by omega)] at H3;have hp7:(16:Int) ^ t.size≤268435456:=by obtain⟨m,hm⟩:∃m,t.size=m+1:=⟨t.size - 1,by omega⟩;rw[hm,Int.pow_succ];have:=HP.out m (by omega);omega
      have H4:=hide (show bs.all (digB 16)=true∧valL 16 bs 0=a∧a<268435456 from⟨H3.2.2,H3.2.1,by have:=H3.1;omega⟩);clear H3 hp7;go_wp2
      go_ret2
      exact⟨by rw[←HR.out,H4.out.1,H4.out.2.1];rfl,HF.out,by rw[←HZ.out,H4.out.2.1];exact fun _=>⟨a0,H4.out.2.2⟩⟩
end
end Go.Proofs.YtnlacmnoocigiaaGreatDoor
namespace Go.Proofs.YtnlacmnoocigiaaGreatDoor
open Go.RowKit Go.Lib
attribute [local go_sem ↓] Go.wp_at_zero Go.wp_at_succ
set_option maxRecDepth 100000 in
set_option maxHeartbeats 4000000 in
theorem zlo (base:Int)(hb:base=10∨base=16)(t:ByteArray)(w:World)(h1:1≤t.size)(h7:t.size≤7)(hs:∀x,t.data.toList[0]? =some x→z6u x=false):
 Calls Tryz.prog 167 #[.string t,.int .i64 base,.int .i64 64] w fun e w'=>
  e=.returned (if t.data.toList.all (digB base)=true then .tuple #[.int .i64 (valL base t.data.toList 0),.nilIface] else .tuple #[.int .i64 0,.iface 227 (.int .i64 2)])∧Fr (fun _=>False) w w':=by
 have HU:=hide (zed base hb t w h1 h7);have hE:=z2c h1;have hE2:=z6d h1;have h0:0<t.size:=by omega
 have hs0:=hs (t[0]'h0) (data_getElem? t 0 h0);have n43:¬((t[0]'h0).toNat:Int)=43:=fun e=>by have:t[0]'h0=43:=UInt8.toNat_inj.1 (by show _=43;omega);rw[this] at hs0;revert hs0;decide
 have n45:¬((t[0]'h0).toNat:Int)=45:=fun e=>by have:t[0]'h0=45:=UInt8.toNat_inj.1 (by show _=45;omega);rw[this] at hs0;revert hs0;decide
 clear hs hs0
 cases ha:t.data.toList.all (digB base) with
 |true=>
  rw[ha] at HU;simp only[if_true,true_implies] at HU⊢;generalize valL base t.data.toList 0=v at*;clear ha hb;go_enter Tryz.func167,Tryz.ntmps167;go_wp2_with (go_at_call 171;refine HU.out.mono ?_;rintro e w1 ⟨rfl,f1,v0,v1⟩)
  go_ret2
  exact⟨rfl,f1⟩
 |false=>
  rw[ha] at HU;simp only[Bool.false_eq_true,if_false] at HU⊢;clear ha hb;have hne:∀W:World,(binOp .neq 120 (.iface 227 (.int .i64 2)) (.iface 227 (.int .i64 1))).run Tryz.prog W=.ok (.bool true) W:=fun _=>by kernel_rfl
  go_enter Tryz.func167,Tryz.ntmps167;go_wp2_with (go_at_call 171;refine HU.out.mono ?_;rintro e w1 ⟨rfl,f1, -⟩)
  go_ret2
  exact⟨rfl,f1⟩
set_option maxRecDepth 100000 in
set_option maxHeartbeats 4000000 in
theorem zfu (base:Int)(hb:base=10∨base=16)(t:ByteArray)(w:World)(hst:St w)(h1:1≤t.size)(h7:t.size≤7)(hs:∀x,t.data.toList[0]? =some x→z6u x=false):
 Calls Tryz.prog 159 #[.string t,.int .i64 base,.int .i64 64] w fun e w'=>
  (t.data.toList.all (digB base)=true→e=.returned (.tuple #[.int .i64 (valL base t.data.toList 0),.nilIface]))∧(t.data.toList.all (digB base)=false→∃T p,e=.returned (.tuple #[.int .i64 0,.iface T p]))∧Fr (fun _=>False) w w':=by
 have HU:=hide (zlo base hb t w h1 h7 hs);have HST:=hide hst;clear hst hs hb
 cases ha:t.data.toList.all (digB base) with
 |true=>
  rw[ha] at HU;simp only[if_true] at HU⊢;generalize valL base t.data.toList 0=v at*;clear ha;go_enter Tryz.func159,Tryz.ntmps159;go_wp2_with (go_at_call 167;refine HU.out.mono ?_;rintro e w1 ⟨rfl,f1⟩)
  go_ret2
  exact⟨fun _=>rfl,(fun h=>absurd h (by simp)),f1⟩
 |false=>
  rw[ha] at HU;simp only[Bool.false_eq_true,if_false] at HU⊢;clear ha;have hlim:t.size≤281474976710656:=by omega
  go_enter Tryz.func159,Tryz.ntmps159
  go_wp2_with (first
   |(go_at_call 167;refine HU.out.mono ?_;rintro e w1 ⟨rfl,f1⟩)
   |(go_at_call 168;obtain⟨T0,p0,hes⟩:=(HST.out.same f1).es;refine(Tryz.strconv_toError_syntax _ t _ _ _ _ hlim hes (.inr ⟨_,_,rfl⟩)).mono ?_;rintro e w2 ⟨N,rfl, -, -,f2⟩))
  go_ret2
  exact⟨(fun h=>absurd h (by simp)),fun _=>⟨_,_,rfl⟩,f1.of_below_new f1.size f2⟩
theorem zlp (base:Int)(b:UInt8)(h:z6u b=true):digB base b=false:=by
 have:digV b= -1:=by unfold z6u at h;simp only[Bool.or_eq_true,beq_iff_eq] at h;rcases h with (rfl|rfl)|rfl<;>decide
 simp[digB,this]
theorem zfv {base:Int}(hb:base=10∨base=16):∀(l:List UInt8) (n:Int),l.all (digB base)=true→0≤n→0≤valL base l n∧valL base l n<(n+1)*16 ^ l.length
 |[],n,_,hn=>by simp only[valL,List.length_nil,Int.pow_zero];omega
 |b::l,n,h,hn=>by
  rw[List.all_cons,Bool.and_eq_true] at h;have hd:=h.1;simp only[digB,decide_eq_true_eq] at hd;have h2:0≤n*base+digV b:=by rcases hb with rfl|rfl<;>omega
  have ih:=zfv hb l (n*base+digV b) h.2 h2;refine⟨ih.1,Int.lt_of_lt_of_le ih.2 ?_⟩;rw[List.length_cons,Int.pow_succ,Int.mul_comm (16 ^ l.length) 16,←Int.mul_assoc];refine Int.mul_le_mul_of_nonneg_right ?_ (Int.pow_nonneg (by decide));rcases hb with rfl|rfl<;>omega
set_option maxRecDepth 100000 in
set_option maxHeartbeats 4000000 in
theorem zd3 (base:Int)(most:Nat)(hb:base=10∨base=16)(hm:most≤7)(t:ByteArray)(w:World)(hst:St w)(hts:t.size≤1000000):
 Calls Tryz.prog 141 #[.string t,.int .i64 base,.int .i64 most] w fun e w'=>e=.returned (.string ⟨(numP base most t.data.toList).toArray⟩)∧Fr (fun _=>False) w w':=by
 have hl:t.data.toList.length=t.size:=rfl;by_cases h1:1≤t.size∧t.size≤most
 · obtain⟨h1,h2⟩:=h1;have hE:=z2c h1;have hE2:=z6d h1;have hmi:¬((most:Int)<(t.size:Int)):=by omega
   have HC:=hide (zec t w h1 (by omega));by_cases hall:t.data.toList.all (digB base)=true
   · have hnum:numP base most t.data.toList=putL (valL base t.data.toList 0):=by unfold numP;rw[if_pos ⟨by omega,by omega,hall⟩]
     have hno:t.data.toList.any z6u=false:=by rw[List.any_eq_false];intro x hx hs;have:=List.all_eq_true.1 hall x hx;rw[zlp base x hs] at this;cases this
     have hvb:=zfv hb t.data.toList 0 hall (by omega)
     have hv2:valL base t.data.toList 0<1000000000:=by
      have h3:∀k,k≤7→(16:Int) ^ k≤268435456:=by
       intro k hk
       match k,hk with
       |0,_=>decide
       |1,_=>decide
       |2,_=>decide
       |3,_=>decide
       |4,_=>decide
       |5,_=>decide
       |6,_=>decide
       |7,_=>decide
      have:=h3 t.data.toList.length (by omega);omega
     have HP:=hide (fun W hW hs=>zfu base hb t W hW h1 (by omega) hs);have HN:=hide hno;have HA:=hide hall;have HST:=hide hst;have v0:=hvb.1;rw[hnum];generalize valL base t.data.toList 0=v at*;clear hall hno hvb hnum hst hb;go_enter Tryz.func141,Tryz.ntmps141
     go_wp2_with (first
      |(go_at_call 158;refine HC.out.mono ?_;rintro e w1 ⟨b,rfl,k1,k2,f1⟩;obtain rfl:b=false:=Bool.eq_false_iff.2 (fun hb=>Bool.noConfusion ((k1 hb).symm.trans HN.out));have K2:=hide (k2 rfl);clear k1 k2)
      |(go_at_call 159;refine(HP.out _ (HST.out.same f1) K2.out).mono ?_;rintro e w2 ⟨k3, -,f2⟩;obtain rfl:=k3 HA.out)
      |(go_at_call 100;refine(zi8 _ _ ((HST.out.same f1).same f2).ub).mono ?_;rintro e w3 ⟨rfl,f3⟩))
     go_ret;exact⟨rfl,(f1.trans f2).trans f3⟩
   · have hall:t.data.toList.all (digB base)=false:=by simpa using hall
     have hnum:numP base most t.data.toList=[]:=by unfold numP;rw[if_neg (fun h=>by rw[hall] at h;cases h.2.2)]
     have HP:=hide (fun W hW hs=>zfu base hb t W hW h1 (by omega) hs);have HA:=hide hall;have HST:=hide hst;rw[hnum];clear hall hnum hst hb;go_enter Tryz.func141,Tryz.ntmps141;go_wp2_with (go_at_call 158;refine HC.out.mono ?_;rintro e w1 ⟨b,rfl, -,k2,f1⟩;have K2:=hide k2;clear k2)
     · go_ret;exact⟨rfl,f1⟩
     · have hbf:b=false:=by first|assumption|(simpa using ‹¬b=true›)
       have hs:=K2.out hbf;go_wp2_with (go_at_call 159;refine(HP.out _ (HST.out.same f1) hs).mono ?_;rintro e w2 ⟨-,k4,f2⟩;obtain⟨T,p,rfl⟩:=k4 HA.out;clear k4);go_ret;exact⟨rfl,f1.trans f2⟩
 · have hnum:numP base most t.data.toList=[]:=by unfold numP;rw[if_neg (fun h=>h1 ⟨by omega,by omega⟩)]
   rw[hnum];by_cases h0:t.size=0
   · have h00:t.data.toList=[]:=List.eq_nil_of_length_eq_zero (by omega);have hE:t.toList.isEmpty=true:=by rw[toList_data,h00];rfl
     have hE2:t.toList=[]:=by rw[toList_data,h00]
     clear h00 h1 hnum;go_enter Tryz.func141,Tryz.ntmps141;go_wp2_with fail;go_ret;exact⟨rfl,Fr.refl _ _⟩
   · have hE:=z2c (P:=t) (by omega);have hE2:=z6d (P:=t) (by omega);have hmi:(most:Int)<(t.size:Int):=by omega
     clear h1 hnum h0;go_enter Tryz.func141,Tryz.ntmps141;go_wp2_with fail;go_ret;exact⟨rfl,Fr.refl _ _⟩
end Go.Proofs.YtnlacmnoocigiaaGreatDoor
namespace Go.Proofs.YtnlacmnoocigiaaGreatDoor
open Go.RowKit Go.Lib
attribute [local go_sem ↓] Go.wp_at_zero Go.wp_at_succ
theorem zw1 {l:List UInt8}(h1:hasPrefix l [38]=true)(h2:(cut l [59]).2.2=true):1≤(cut l [59]).1.length∧(cut l [59]).1.length≤l.length:=by
 by_cases hs:(59:UInt8)∈l
 · obtain⟨a,r,rfl,ha⟩:=z28 hs;rw[zi9 ha]
   cases a with
   |nil=>simp[hasPrefix,List.isPrefixOf] at h1
   |cons b a=>simp
 · rw[zk1 hs] at h2;cases h2
theorem zfw (w w':World)(k:ByteArray)(h:w.alloc (.map nameEs 5)=w'):
 (Instr.lookup 160 (.map (some w.heap.size)) (.string k) false).run Tryz.prog w'=.ok (.agg #[.string ⟨(zad k.data.toList).toArray⟩]) w':=by
 subst h;rw[za3 Tryz.underlying160 Tryz.underlying9 (zob w) k (zfo _) false];unfold zvv zad;cases List.find? (fun p=>p.1==k.data.toList) nameL<;>rfl
theorem zsu (k c:ByteArray)(hc:c=⟨(zad k.data.toList).toArray⟩)(w:World):Calls Tryz.prog 92 #[] w fun e w'=>
 ∃b,e=.returned (.map (some b))∧(Instr.lookup 160 (.map (some b)) (.string k) false).run Tryz.prog w'=.ok (.agg #[.string c]) w'∧Fr (fun _=>False) w w':=by
 refine(zfn w).mono ?_;rintro e w' ⟨rfl,rfl⟩;exact⟨_,rfl,by rw[hc];exact zfw w _ k rfl,Fr.alloc (Fr.refl _ _) _⟩
theorem zlq (c:ByteArray)(W:World):(Instr.field 163 (.agg #[.string c]) 0).run Tryz.prog W=.ok (.string c) W:=by kernel_rfl
set_option maxRecDepth 100000 in
set_option maxHeartbeats 4000000 in
theorem zee (s:ByteArray)(w:World)(hst:St w)(hs:s.size≤1000000):
 Calls Tryz.prog 108 #[.string s] w fun e w'=>e=.returned (.tuple #[.string ⟨(refP s.data.toList).1.toArray⟩,.int .i64 (refP s.data.toList).2])∧Fr (fun _=>False) w w':=by
 have hl:s.data.toList.length=s.size:=rfl;obtain⟨ml,hml⟩:=hst.ml;have HP:=hide (Tryz.strings_HasPrefix s ⟨#[38]⟩ w);have HC:=hide (fun W hW=>Tryz.strings_Cut s ⟨#[59]⟩ ml W (by omega) hW);have HML:=hide hml;have HST:=hide hst;clear hml;simp only at HP HC
 cases h1:hasPrefix s.data.toList [38] with
 |false=>
  have hr:refP s.data.toList=([],0):=by unfold refP;rw[if_neg (fun h=>by rw[h1] at h;cases h.1)]
  rw[hr];rw[h1] at HP;clear h1 hr hst;go_enter Tryz.func108,Tryz.ntmps108;go_wp2_with (go_at_call 140;refine HP.out.mono ?_;rintro e w1 ⟨rfl,rfl⟩)
  go_ret2
  exact⟨rfl,Fr.refl _ _⟩
 |true=>
  rw[h1] at HP
  cases h2:(cut s.data.toList [59]).2.2 with
  |false=>
   have hr:refP s.data.toList=([],0):=by unfold refP;rw[if_neg (fun h=>by rw[h2] at h;cases h.2.1)]
   rw[hr];rw[h2] at HC;clear h1 h2 hr hst;go_enter Tryz.func108,Tryz.ntmps108
   go_wp2_with (first
    |(go_at_call 140;refine HP.out.mono ?_;rintro e w1 ⟨rfl,rfl⟩)
    |(go_at_call 74;refine(HC.out _ HML.out).mono ?_;rintro e w2 ⟨rfl,n2,rfl⟩))
   go_ret2
   exact⟨rfl,(Fr.refl _ _).drewN _⟩
  |true=>
   obtain⟨hn1,hn2⟩:=zw1 h1 h2
   have hr:refP s.data.toList=if z3c ((cut s.data.toList [59]).1.drop 1)=[] then([],0) else(z3c ((cut s.data.toList [59]).1.drop 1),(cut s.data.toList [59]).1.length+1):=by
    unfold refP;by_cases h:z3c ((cut s.data.toList [59]).1.drop 1)=[]
    · rw[if_neg (fun hh=>hh.2.2 h),if_pos h]
    · rw[if_pos ⟨h1,h2,h⟩,if_neg h]
   rw[hr];rw[h2] at HC;clear h1 h2 hr hst;generalize (cut s.data.toList [59]).2.1=rest at*;obtain⟨nm,hnm⟩:∃nm:ByteArray,nm=⟨(cut s.data.toList [59]).1.toArray⟩:=⟨_,rfl⟩;have hnl:nm.data.toList=(cut s.data.toList [59]).1:=by rw[hnm]
   rw[←hnm] at HC;rw[←hnl] at hn1 hn2⊢;have hsz:nm.data.toList.length=nm.size:=rfl;rw[hsz] at hn1 hn2⊢;clear hnm hnl hsz;have hnb:nm.size≤1000000:=by omega
   obtain⟨nt,hnt⟩:∃nt:ByteArray,nt=nm.extract 1 nm.size:=⟨_,rfl⟩;have hntl:nt.data.toList=nm.data.toList.drop 1:=by rw[hnt,extract_to_end]
   have hntz:nt.size≤1000000:=by have:nt.data.toList.length=nt.size:=rfl;rw[hntl,List.length_drop] at this;have h3:nm.data.toList.length=nm.size:=rfl;omega
   rw[←hntl];have hsl:∀W:World,(Instr.slice 9 (.string nm) (some (.int .i64 1)) none none).run Tryz.prog W=.ok (.string nt) W:=fun W=>by rw[hnt,run_slice_string_l (P:=Tryz.prog) W 9 nm Tryz.underlying9 .i64 1 (by omega) (by omega)];rfl
   clear hntl hnt hn1 hn2
   have hne:∀l:List UInt8,l≠[]→(⟨l.toArray⟩:ByteArray).toList.isEmpty=false∧¬(⟨l.toArray⟩:ByteArray).toList=[]:=fun l h=>by
    have:1≤(⟨l.toArray⟩:ByteArray).size:=by show 1≤l.toArray.size;rw[List.size_toArray];exact List.length_pos_iff.2 h
    exact⟨z2c this,z6d this⟩
   have HNE:=hide hne;clear hne;have hdsz:∀k,(⟨(nt.data.toList.drop k).toArray⟩:ByteArray).size≤1000000:=fun k=>by show (nt.data.toList.drop k).toArray.size≤_;rw[List.size_toArray,List.length_drop];have:nt.data.toList.length=nt.size:=rfl;omega
   have HX:=hide (fun W=>Tryz.strings_CutPrefix nt ⟨#[35,120]⟩ W);have HD:=hide (fun W=>Tryz.strings_CutPrefix nt ⟨#[35]⟩ W);simp only at HX HD;obtain⟨c,hcc⟩:∃c:ByteArray,c=⟨(z3c nt.data.toList).toArray⟩:=⟨_,rfl⟩;have HCC:=hide hcc
   cases hx:hasPrefix nt.data.toList [35,120] with
   |true=>
    have hsay:z3c nt.data.toList=numP 16 6 (nt.data.toList.drop 2):=by unfold z3c;rw[if_pos hx]
    have htr:trimPrefix nt.data.toList [35,120]=nt.data.toList.drop 2:=by unfold trimPrefix;rw[if_pos hx];rfl
    rw[hx,htr] at HX;have hn:=fun W hW=>zd3 16 6 (by decide) (by omega) ⟨(nt.data.toList.drop 2).toArray⟩ W hW (hdsz 2);simp only[Int.cast_ofNat_Int] at hn;rw[hsay] at hcc;rw[←hcc] at hn;have HN:=hide hn;generalize (⟨(nt.data.toList.drop 2).toArray⟩:ByteArray)=nx at*;clear hx hsay htr HD hn hcc hdsz;by_cases hz:z3c nt.data.toList=[]
    · rw[if_pos hz];rw[hz] at HCC;have hcc:=HCC.out;subst hcc;clear hz;go_enter Tryz.func108,Tryz.ntmps108
      go_wp2_with (first
       |(go_at_call 140;refine HP.out.mono ?_;rintro e w1 ⟨rfl,rfl⟩)
       |(go_at_call 74;refine(HC.out _ HML.out).mono ?_;rintro e w2 ⟨rfl,n2,rfl⟩)
       |(go_at_call 73;go_fit (HX.out _);rintro e w3 ⟨rfl,rfl⟩)
       |(go_at_call 141;refine(HN.out _ (HST.out.same ((Fr.refl _ _).drewN _))).mono ?_;rintro e w4 ⟨rfl,f4⟩))
      go_ret2
      exact⟨rfl,((Fr.refl _ _).drewN _).trans f4⟩
    · rw[if_neg hz,←HCC.out];have hne:=HNE.out _ hz;rw[←HCC.out] at hne;obtain⟨hE,hE2⟩:=hne;clear hz;go_enter Tryz.func108,Tryz.ntmps108
      go_wp2_with (first
       |(go_at_call 140;refine HP.out.mono ?_;rintro e w1 ⟨rfl,rfl⟩)
       |(go_at_call 74;refine(HC.out _ HML.out).mono ?_;rintro e w2 ⟨rfl,n2,rfl⟩)
       |(go_at_call 73;go_fit (HX.out _);rintro e w3 ⟨rfl,rfl⟩)
       |(go_at_call 141;refine(HN.out _ (HST.out.same ((Fr.refl _ _).drewN _))).mono ?_;rintro e w4 ⟨rfl,f4⟩))
      go_ret2
      exact⟨rfl,((Fr.refl _ _).drewN _).trans f4⟩
   |false=>
    have htr:trimPrefix nt.data.toList [35,120]=nt.data.toList:=by unfold trimPrefix;rw[if_neg (by rw[hx];decide)]
    rw[hx,htr] at HX;generalize (⟨nt.data.toList.toArray⟩:ByteArray)=n0 at HX
    cases hd:hasPrefix nt.data.toList [35] with
    |true=>
     have hsay:z3c nt.data.toList=numP 10 7 (nt.data.toList.drop 1):=by unfold z3c;rw[if_neg (by rw[hx];decide),if_pos hd]
     have htr:trimPrefix nt.data.toList [35]=nt.data.toList.drop 1:=by unfold trimPrefix;rw[if_pos hd];rfl
     rw[hd,htr] at HD;have hn:=fun W hW=>zd3 10 7 (by decide) (by omega) ⟨(nt.data.toList.drop 1).toArray⟩ W hW (hdsz 1);simp only[Int.cast_ofNat_Int] at hn;rw[hsay] at hcc;rw[←hcc] at hn;have HN:=hide hn;generalize (⟨(nt.data.toList.drop 1).toArray⟩:ByteArray)=nx at*;clear hx hd hsay htr hn hcc hdsz;by_cases hz:z3c nt.data.toList=[]
     · rw[if_pos hz];rw[hz] at HCC;have hcc:=HCC.out;subst hcc;clear hz;go_enter Tryz.func108,Tryz.ntmps108
       go_wp2_with (first
        |(go_at_call 140;refine HP.out.mono ?_;rintro e w1 ⟨rfl,rfl⟩)
        |(go_at_call 74;refine(HC.out _ HML.out).mono ?_;rintro e w2 ⟨rfl,n2,rfl⟩)
        |(go_at_call 73;go_fit (HX.out _);rintro e w3 ⟨rfl,rfl⟩)
        |(go_at_call 73;go_fit (HD.out _);rintro e w3 ⟨rfl,rfl⟩)
        |(go_at_call 141;refine(HN.out _ (HST.out.same ((Fr.refl _ _).drewN _))).mono ?_;rintro e w4 ⟨rfl,f4⟩))
       go_ret2
       exact⟨rfl,((Fr.refl _ _).drewN _).trans f4⟩
     · rw[if_neg hz,←HCC.out];have hne:=HNE.out _ hz;rw[←HCC.out] at hne;obtain⟨hE,hE2⟩:=hne;clear hz;go_enter Tryz.func108,Tryz.ntmps108
       go_wp2_with (first
        |(go_at_call 140;refine HP.out.mono ?_;rintro e w1 ⟨rfl,rfl⟩)
        |(go_at_call 74;refine(HC.out _ HML.out).mono ?_;rintro e w2 ⟨rfl,n2,rfl⟩)
        |(go_at_call 73;go_fit (HX.out _);rintro e w3 ⟨rfl,rfl⟩)
        |(go_at_call 73;go_fit (HD.out _);rintro e w3 ⟨rfl,rfl⟩)
        |(go_at_call 141;refine(HN.out _ (HST.out.same ((Fr.refl _ _).drewN _))).mono ?_;rintro e w4 ⟨rfl,f4⟩))
       go_ret2
       exact⟨rfl,((Fr.refl _ _).drewN _).trans f4⟩
    |false=>
     have htr:trimPrefix nt.data.toList [35]=nt.data.toList:=by unfold trimPrefix;rw[if_neg (by rw[hd];decide)]
     rw[hd,htr] at HD;generalize (⟨nt.data.toList.toArray⟩:ByteArray)=n1 at HD;have hsay:z3c nt.data.toList=zad nt.data.toList:=by unfold z3c;rw[if_neg (by rw[hx];decide),if_neg (by rw[hd];decide)]
     rw[hsay] at hcc;have NM:=hide (fun W=>zsu nt c hcc W);have hfd:=zlq;clear hx hd hsay htr hcc hdsz;by_cases hz:z3c nt.data.toList=[]
     · rw[if_pos hz];rw[hz] at HCC;have hcc:=HCC.out;subst hcc;clear hz;go_enter Tryz.func108,Tryz.ntmps108
       go_wp2_with (first
        |(go_at_call 140;refine HP.out.mono ?_;rintro e w1 ⟨rfl,rfl⟩)
        |(go_at_call 74;refine(HC.out _ HML.out).mono ?_;rintro e w2 ⟨rfl,n2,rfl⟩)
        |(go_at_call 73;go_fit (HX.out _);rintro e w3 ⟨rfl,rfl⟩)
        |(go_at_call 73;go_fit (HD.out _);rintro e w3 ⟨rfl,rfl⟩)
        |(go_at_call 92;refine(NM.out _).mono ?_;rintro e w4 ⟨b,rfl,hlk,f4⟩))
       go_ret2
       exact⟨rfl,((Fr.refl _ _).drewN _).trans f4⟩
     · rw[if_neg hz,←HCC.out];have hne:=HNE.out _ hz;rw[←HCC.out] at hne;obtain⟨hE,hE2⟩:=hne;clear hz;go_enter Tryz.func108,Tryz.ntmps108
       go_wp2_with (first
        |(go_at_call 140;refine HP.out.mono ?_;rintro e w1 ⟨rfl,rfl⟩)
        |(go_at_call 74;refine(HC.out _ HML.out).mono ?_;rintro e w2 ⟨rfl,n2,rfl⟩)
        |(go_at_call 73;go_fit (HX.out _);rintro e w3 ⟨rfl,rfl⟩)
        |(go_at_call 73;go_fit (HD.out _);rintro e w3 ⟨rfl,rfl⟩)
        |(go_at_call 92;refine(NM.out _).mono ?_;rintro e w4 ⟨b,rfl,hlk,f4⟩))
       go_ret2
       exact⟨rfl,((Fr.refl _ _).drewN _).trans f4⟩
def wp3 (r:List UInt8×Nat×Int):Value:=.tuple #[.string ⟨r.1.toArray⟩,.int .i64 r.2.1,.int .i64 r.2.2]
theorem zsv (n:List UInt8):(z3c n).length≤4:=by
 have hp:∀c,(putL c).length≤4:=fun c=>by
  unfold putL;split
  · have:=encodeRuneZ_length c;unfold encodeRune;rw[List.length_map];omega
  · simp
 unfold z3c numP zad;split
 · split
   · exact hp _
   · simp
 · split
   · split
     · exact hp _
     · simp
   · split
     · rename_i p h;have:=List.mem_of_find?_eq_some h;simp only[nameL,List.mem_cons,List.not_mem_nil,or_false] at this;rcases this with rfl|rfl|rfl|rfl|rfl<;>simp
     · simp
theorem zef (l:List UInt8):(z12 l).1.length≤4*(z12 l).2.1:=by
 unfold z12;split
 · rcases z5l l with h1|⟨n,r,rfl,h2,h3,h4⟩
   · rw[h1];simp
   · rw[h4];have:=zsv n;simp only;omega
 · split
   · simp
   · simp only[List.length_take];omega
set_option maxRecDepth 100000 in
set_option maxHeartbeats 4000000 in
theorem zd4 (s:ByteArray)(w:World)(hst:St w)(hs:s.size≤100000):
 Calls Tryz.prog 79 #[.string s] w fun e w'=>e=.returned (wp3 (z04 s.data.toList))∧Fr (fun _=>False) w w':=by
 have hl:s.data.toList.length=s.size:=rfl;have HST:=hide hst;obtain⟨R,hR⟩:∃R,z04 s.data.toList=R:=⟨_,rfl⟩;rw[hR];unfold z04 at hR;rw[hl] at hR;have HR:=hide hR;have HB:=hide (Bd.fresh w);clear hR hst;go_enter Tryz.func79,Tryz.ntmps79;go_wp2_with fail;go_loopw [3] (fun i wr=>∃(p f:Nat) (acc:List UInt8),p≤s.size∧acc.length≤4*p∧i=.int .i64 p∧Hid (Fr (fun _=>False) w wr∧Bd wr w.heap.size acc)∧Hid (decode f (s.data.toList.drop p) acc p=R∧s.size≤p+f)) (fun i _=>s.size - (Go.RowKit.intOf i).toNat)
 case atStart=>exact⟨0,s.size,[],by omega,by simp,rfl,⟨Fr.alloc (Fr.refl _ _) _,HB.out⟩,by simpa using HR.out,by omega⟩
 case round=>
  obtain⟨p,f,acc,hp,hacc,rfl,hfb,hd⟩:=hrel;by_cases hps:p<s.size
  · obtain⟨f,rfl⟩:∃f',f=f'+1:=⟨f - 1,by have:=hd.out.2;omega⟩;have hpi:(p:Int)<(s.size:Int):=by omega
    have hext:(s.extract p s.size).data.toList=s.data.toList.drop p:=extract_to_end s p;have hsz:(s.extract p s.size).size≤100000:=by have:(s.extract p s.size).data.toList.length=(s.extract p s.size).size:=rfl;rw[hext,List.length_drop] at this;omega
    have hcons:s.data.toList.drop p=s[p]'hps::s.data.toList.drop (p+1):=by rw[List.drop_eq_getElem_cons (by omega)];rfl
    have hl0:s.data.toList.drop p≠[]:=by rw[hcons];simp
    have HRF:=zee (s.extract p s.size) wr (HST.out.same hfb.out.1) (by omega);rw[hext] at HRF;have HRF:=hide HRF;have hdec:=hd.out.1;unfold decode at hdec;rw[if_neg hl0] at hdec;have hslen:=zef (s.data.toList.drop p);by_cases hr:(refP (s.data.toList.drop p)).2≠0
    · have hst2:z12 (s.data.toList.drop p)=((refP (s.data.toList.drop p)).1,(refP (s.data.toList.drop p)).2,0):=by unfold z12;rw[if_pos hr]
      have hbd:=(z1u hl0 (by rw[hst2]) []).2.2.1;rw[hst2] at hdec hslen hbd;simp only[ne_eq,not_true_eq_false,if_false,List.drop_drop] at hdec hslen hbd;rw[List.length_drop] at hbd;have HD:=hide hdec;clear hdec hst2 hext hsz hcons hl0;generalize (refP (s.data.toList.drop p)).1=c at*;generalize (refP (s.data.toList.drop p)).2=n at*;have hn0:((n:Int)==0)=false:=by simp;omega
      have hcl:(⟨c.toArray⟩:ByteArray).size=c.length:=by show c.toArray.size=_;simp
      have HW:=hide (fun(W:World) (hW:Bd W w.heap.size acc)=>z0k w.heap.size acc ⟨c.toArray⟩ W hW (by rw[hcl];omega));simp only at HW;clear hcl
      go_wp2_with (first
       |(go_at_call 108;refine HRF.out.mono ?_;rintro e w1 ⟨rfl,f1⟩)
       |(go_at_call 63;refine(HW.out _ (hfb.out.2.fr f1)).mono ?_;rintro e w2 ⟨rfl,b2,g2, -⟩))
      go_roundw
      case rel=>exact⟨p+n,f,acc++c,by omega,by rw[List.length_append];omega,by go_num,⟨(hfb.out.1.trans f1).of_below_new (Nat.le_refl _) g2,b2⟩,HD.out,by have:=hd.out.2;omega⟩
      case measure=>simp[Go.RowKit.intOf];omega
    · have hr0:refP (s.data.toList.drop p)=([],0):=by
       rcases z5l (s.data.toList.drop p) with h|⟨a,b,_,_,_,h⟩
       · exact h
       · exact absurd (by rw[h];simp) hr
      rw[hr0] at HRF;have hhd:(s.data.toList.drop p).head? =some (s[p]'hps):=by rw[hcons];rfl
      by_cases h38:s[p]'hps=38
      · have hst2:z12 (s.data.toList.drop p)=([],0,30):=by unfold z12;rw[if_neg hr,hhd,h38,if_pos rfl]
        rw[hst2] at hdec;simp only[ne_eq] at hdec;rw[if_pos (by decide:¬(30:Int)=0)] at hdec;have hb:(((s[p]'hps).toNat:Int))=38:=by rw[h38];rfl
        clear hst2 hext hsz hcons hl0 hr0 hr hhd h38 hslen;subst hdec;go_wp2_with (go_at_call 108;refine HRF.out.mono ?_;rintro e w1 ⟨rfl,f1⟩);go_returns;exact⟨rfl,hfb.out.1.trans f1⟩
      · have hst2:z12 (s.data.toList.drop p)=((s.data.toList.drop p).take (z0u (s.data.toList.drop p)).2.1,(z0u (s.data.toList.drop p)).2.1,(z0u (s.data.toList.drop p)).2.2):=by unfold z12;rw[if_neg hr,hhd,if_neg (fun e=>h38 (by simpa using e))]
        have hb:¬(((s[p]'hps).toNat:Int))=38:=fun e=>h38 (UInt8.toNat_inj.1 (by show _=38;omega));have HN:=fun W hW=>zsk (s.extract p s.size) W hW (by omega);rw[hext] at HN;by_cases he:(z0u (s.data.toList.drop p)).2.2=0
        · have hbd:=(z1u hl0 (by rw[hst2];exact he) []).2.2.1;have hbk:=(z1u hl0 (by rw[hst2];exact he) []).2.1;rw[hst2,he] at hdec;rw[hst2] at hbd hslen hbk;simp only[ne_eq,not_true_eq_false,if_false,List.drop_drop] at hdec hbd hslen hbk;rw[List.length_drop] at hbd;rw[he] at HN;obtain⟨c,hc⟩:∃c,c=(s.data.toList.drop p).take (z0u (s.data.toList.drop p)).2.1:=⟨_,rfl⟩;rw[←hc] at hdec hslen;have hcx:∀k,k=(z0u (s.data.toList.drop p)).2.1→(s.extract p (p+k)).data.toList=c:=fun k hk=>by rw[z1x,hc,hk];congr 1;omega
          have HD:=hide hdec;have HN:=hide HN;clear hdec hst2 hext hsz hcons hl0 hr0 hr hhd h38 he hc;generalize (z0u (s.data.toList.drop p)).1=x at*;generalize (z0u (s.data.toList.drop p)).2.1=k at*;have hcx:=hcx k rfl;have hxz:(s.extract p (p+k)).size=c.length:=by have:(s.extract p (p+k)).data.toList.length=(s.extract p (p+k)).size:=rfl;rw[←this,hcx]
          have HW:=fun(W:World) (hW:Bd W w.heap.size acc)=>z0k w.heap.size acc (s.extract p (p+k)) W hW (by rw[hxz];omega);rw[hcx] at HW;have HW:=hide HW;clear hcx hxz
          go_wp2_with (first
           |(go_at_call 108;refine HRF.out.mono ?_;rintro e w1 ⟨rfl,f1⟩)
           |(go_at_call 109;refine(HN.out _ ((HST.out.same hfb.out.1).same f1).ub).mono ?_;rintro e w2 ⟨rfl,f2⟩)
           |(go_at_call 63;refine(HW.out _ ((hfb.out.2.fr f1).fr f2)).mono ?_;rintro e w3 ⟨rfl,b3,g3, -⟩))
          go_roundw
          case rel=>exact⟨p+k,f,acc++c,by omega,by rw[List.length_append];omega,by go_num,⟨((hfb.out.1.trans f1).trans f2).of_below_new (Nat.le_refl _) g3,b3⟩,HD.out,by have:=hd.out.2;omega⟩
          case measure=>simp[Go.RowKit.intOf];omega
        · rw[hst2] at hdec;simp only[ne_eq,he,not_false_eq_true,if_true] at hdec;have heb:((z0u (s.data.toList.drop p)).2.2 !=0)=true:=by simpa using he
          have HN:=hide HN;clear hst2 hext hsz hcons hl0 hr0 hr hhd h38 hslen he;generalize (z0u (s.data.toList.drop p)).1=x at*;generalize (z0u (s.data.toList.drop p)).2.1=k at*;generalize (z0u (s.data.toList.drop p)).2.2=e0 at*;subst hdec
          go_wp2_with (first
           |(go_at_call 108;refine HRF.out.mono ?_;rintro e w1 ⟨rfl,f1⟩)
           |(go_at_call 109;refine(HN.out _ ((HST.out.same hfb.out.1).same f1).ub).mono ?_;rintro e w2 ⟨rfl,f2⟩))
          go_returns;exact⟨rfl,(hfb.out.1.trans f1).trans f2⟩
  · obtain rfl:p=s.size:=by omega
    have hdec:=hd.out.1;rw[List.drop_of_length_le (by omega)] at hdec
    have hR:R=(acc,0,0):=by
     rw[←hdec]
     cases f with
     |zero=>rfl
     |succ f=>rfl
    subst hR;clear hdec;go_wp2_with (go_at_call 36;refine(z47 _ _ _ hfb.out.2).mono ?_;rintro e w1 ⟨rfl,b1,g1⟩);go_returns;exact⟨rfl,hfb.out.1.of_below_new (Nat.le_refl _) g1⟩
end Go.Proofs.YtnlacmnoocigiaaGreatDoor
