/- the reference's tokens: Tokens, Blank. -/
import Derived.Test.YtnlacmnoocigiaaGreatDoorRtkE
import Derived.Test.YtnlacmnoocigiaaGreatDoorTokHi
namespace Go.Proofs.YtnlacmnoocigiaaGreatDoor
open Go.RowKit Go.Lib
attribute [local go_sem ↓] Go.wp_at_zero Go.wp_at_succ
theorem zif :El Tryz.prog 55 63 5 72:=El.mk (.agg #[.int .u8 0,.string ⟨#[]⟩,.slice none 0 0,.string ⟨#[]⟩,.int .i64 0]) Tryz.underlying55 (by kernel_rfl) rfl
theorem zig (w:World)(x:TokV)(E:TypeId):Rd tokC (w.alloc (.cells #[.int .u8 x.kind,.string x.name,.slice x.A x.m x.c,.string x.text,.int .i64 x.at_] E)) (fun k=>k=w.heap.size) (.slice (some ⟨w.heap.size,0,none⟩) 1 1) [x]:=by refine⟨_,1,rfl,Nat.le_refl _,by simp[maxLen],fun h=>(by cases h),fun _=>⟨w.heap.size,0,rfl,rfl,fun j u hu=> ?_⟩⟩;have hb:=heap_alloc_new w (.cells #[.int .u8 x.kind,.string x.name,.slice x.A x.m x.c,.string x.text,.int .i64 x.at_] E);rw[cell_of_row _ _ _ _ _ _ hb];simpa [Cod.flat,tokC] using hu
theorem zlw {n:Nat}(w:World)(x:TokV)(E:TypeId)(h:w.heap.size=n):Rd tokC (w.alloc (.cells #[.int .u8 x.kind,.string x.name,.slice x.A x.m x.c,.string x.text,.int .i64 x.at_] E)) (fun k=>k=n) (.slice (some ⟨n,0,none⟩) 1 1) [x]:=by subst h;exact zig w x E
theorem RTokAt.storeD {w:World}{tb:Nat}{kind:Int}{name text:ByteArray}{av:Value}{at_:Int}(h:RTokAt w tb kind name av text at_)(k:Int)(n:ByteArray)(v:Value)(t:ByteArray)(i:Int):
 RTokAt (((((w.setCell ⟨tb,0,none⟩ (.int .u8 k)).setCell ⟨tb,1,none⟩ (.string n)).setCell ⟨tb,2,none⟩ v).setCell ⟨tb,3,none⟩ (.string t)).setCell ⟨tb,4,none⟩ (.int .i64 i)) tb k n v t i∧
 Fr (fun k=>k=tb) w (((((w.setCell ⟨tb,0,none⟩ (.int .u8 k)).setCell ⟨tb,1,none⟩ (.string n)).setCell ⟨tb,2,none⟩ v).setCell ⟨tb,3,none⟩ (.string t)).setCell ⟨tb,4,none⟩ (.int .i64 i)):=by
 obtain⟨W,hW,tW,fW⟩:=h.store k n v t i;rw[hW];exact⟨tW,fW⟩
def RTokOk (w:World)(x:TokX):Prop:=x.t.kind=x.m.kind∧x.t.name=⟨x.m.name.toArray⟩∧x.t.text=⟨x.m.text.toArray⟩∧x.t.at_=x.m.at_∧x.t.m=x.m.attrs.length∧∃L,Own rawC w 132 (.slice x.t.A x.t.m x.t.c) x.oa L∧L.map nv=x.m.attrs.map z3d
structure RTokL (w:World)(base:Nat)(v:Value)(o:Option Nat)(X:List TokX):Prop where
 own:Own tokC w 63 v o (X.map (·.t))
 ok:∀x∈X,RTokOk w x
 new:∀k,o=some k→base≤k∧k<w.heap.size
 newa:∀x∈X,∀k,x.oa=some k→base≤k∧k<w.heap.size∧o≠some k
theorem RTokOk.fr {w w':World}{x:TokX}{fp:Nat→Prop}(h:RTokOk w x)(f:Fr fp w w')(hs:∀k,x.oa=some k→¬fp k):RTokOk w' x:=by obtain⟨h1,h2,h3,h4,h5,L,h6,h7⟩:=h;exact⟨h1,h2,h3,h4,h5,L,h6.fr f hs,h7⟩
theorem RTokL.fr {w w':World}{base:Nat}{v:Value}{o:Option Nat}{X:List TokX}{fp:Nat→Prop}(h:RTokL w base v o X)(f:Fr fp w w')(hs:∀k,base≤k→k<w.heap.size→(o=some k∨∃x∈X,x.oa=some k)→¬fp k):RTokL w' base v o X where
 own:=h.own.fr f (fun k hk=>hs k (h.new k hk).1 (h.new k hk).2 (.inl hk))
 ok:=fun x hx=>(h.ok x hx).fr f (fun k hk=>hs k (h.newa x hx k hk).1 (h.newa x hx k hk).2.1 (.inr ⟨x,hx,hk⟩))
 new:=fun k hk=>⟨(h.new k hk).1,Nat.lt_of_lt_of_le (h.new k hk).2 f.size⟩
 newa:=fun x hx k hk=>⟨(h.newa x hx k hk).1,Nat.lt_of_lt_of_le (h.newa x hx k hk).2.1 f.size,(h.newa x hx k hk).2.2⟩
theorem RTokL.frNew {w w':World}{base:Nat}{v:Value}{o:Option Nat}{X:List TokX}{fp:Nat→Prop}(h:RTokL w base v o X)(f:Fr fp w w')(hs:∀k,k<w.heap.size→¬fp k):RTokL w' base v o X:=h.fr f (fun k _ hk _=>hs k hk)
theorem RTokL.nil_ (w:World)(base:Nat):RTokL w base (.slice none 0 0) none []:=⟨Own.nil_ _ _ _ _,fun x hx=>(by cases hx),fun k hk=>(by cases hk),fun x hx=>(by cases hx)⟩
theorem RTokL.snoc {w w':World}{base:Nat}{v v':Value}{o o':Option Nat}{X:List TokX}{x:TokX}(h:RTokL w base v o X)(hx:RTokOk w x)(hxn:∀k,x.oa=some k→base≤k∧k<w.heap.size∧o≠some k)
 (hown:Own tokC w' 63 v' o' (X.map (·.t)++[x.t])) (f:Fr (fun k=>o=some k) w w') (hn:∀k,o'=some k→o=some k∨(w.heap.size≤k∧k<w'.heap.size)) (hb:base≤w.heap.size):RTokL w' base v' o' (X++[x]) where
 own:=by rw[List.map_append];exact hown
 ok:=by
  intro y hy;rcases List.mem_append.1 hy with hy|hy
  · exact(h.ok y hy).fr f (fun k hk e=>(h.newa y hy k hk).2.2 e)
  · rw[List.mem_singleton] at hy;subst hy;exact hx.fr f (fun k hk e=>(hxn k hk).2.2 e)
 new:=fun k hk=>by
  rcases hn k hk with h1|h1
  · exact⟨(h.new k h1).1,Nat.lt_of_lt_of_le (h.new k h1).2 f.size⟩
  · exact⟨by omega,h1.2⟩
 newa:=by
  intro y hy k hk;rcases List.mem_append.1 hy with hy|hy
  · have g:=h.newa y hy k hk;refine⟨g.1,Nat.lt_of_lt_of_le g.2.1 f.size,fun e=> ?_⟩;rcases hn k e with h1|h1
    · exact g.2.2 h1
    · omega
  · rw[List.mem_singleton] at hy;subst hy;have g:=hxn k hk;refine⟨g.1,Nat.lt_of_lt_of_le g.2.1 f.size,fun e=> ?_⟩;rcases hn k e with h1|h1
    · exact g.2.2 h1
    · omega
def RTokensPost (s:ByteArray)(w:World)(e:Ending)(w':World):Prop:=
 ∃(A:Option Addr) (c:Nat) (o:Option Nat) (X:List TokX),e=.returned (.tuple #[.slice A X.length c,.int .i64 (tokR s.data.toList).2.1,.int .i64 (tokR s.data.toList).2.2])∧
  RTokL w' w.heap.size (.slice A X.length c) o X∧X.map (·.m)=(tokR s.data.toList).1∧Fr (fun _=>False) w w'
theorem RTokensPost.err {s:ByteArray}{w w':World}{p:Nat}{er:Int}{i:Int}(h:tokR s.data.toList=([],p,er))(hi:i=p)(f:Fr (fun _=>False) w w'):RTokensPost s w (.returned (.tuple #[.slice none 0 0,.int .i64 i,.int .i64 er])) w':=⟨none,0,none,[],by rw[h,hi];rfl,RTokL.nil_ _ _,by rw[h];rfl,f⟩
structure RTokenJ (s:ByteArray)(R:List Tok×Nat×Int)(w w':World)(i:Nat)(v:Value)(o:Option Nat)(X:List TokX):Prop where
 tl:RTokL w' w.heap.size v o X
 res:tokS (s.data.toList.drop i) i (X.map (·.m))=R
 fr:Fr (fun _=>False) w w'
 len:X.length≤i
theorem zw9 (s:ByteArray)(p:Nat)(w:World)(hs:s.size≤900000)(hp:p<s.size)(h60:(s.data.toList.drop p)[0]? =some 60)(ht:tagP (s.data.toList.drop p)=none):
 Calls Tryz.prog 41 #[.string s,.int .i64 p] w fun e w'=>e=.returned (.tuple #[.agg #[.int .u8 0,.string ⟨#[]⟩,.slice none 0 0,.string ⟨#[]⟩,.int .i64 0],.int .i64 0])∧Fr (fun _=>False) w w':=
 (zk7 s p w hs hp h60).mono fun e w' ⟨hf,hm⟩=>by rw[ht] at hm;exact⟨hm,hf⟩
theorem zt3 (s:ByteArray)(p:Nat)(w:World)(hs:s.size≤900000)(hp:p<s.size)(h60:(s.data.toList.drop p)[0]? =some 60){kind:Nat}{name:List UInt8}{ats:List RawA}{k:Nat}(ht:tagP (s.data.toList.drop p)=some (kind,name,ats,k)):
 Calls Tryz.prog 41 #[.string s,.int .i64 p] w fun e w'=>∃A c o,e=.returned (.tuple #[.agg #[.int .u8 kind,.string ⟨name.toArray⟩,.slice A ats.length c,.string ⟨#[]⟩,.int .i64 (p:Int)],.int .i64 (k:Int)])∧
  Own rawC w' 132 (.slice A ats.length c) o (ats.map (rawV p))∧(∀x,o=some x→w.heap.size≤x∧x<w'.heap.size)∧Fr (fun _=>False) w w':=
 (zk7 s p w hs hp h60).mono fun e w' ⟨hf,hm⟩=>by rw[ht] at hm;obtain⟨A,c,o,h1,h2,h3⟩:=hm;exact⟨A,c,o,h1,h2,h3,hf⟩
set_option maxHeartbeats 1000000 in
theorem zlx (s:ByteArray)(w:World)(hs:s.size≤maxLen):Calls Tryz.prog 43 #[.string s] w fun e w'=>e=.returned (.bool (s.data.toList.all z0z))∧w=w':=by
 obtain⟨R,hR⟩:∃R,s.data.toList.all z0z=R:=⟨_,rfl⟩;have h63:s.size≤9223372036854775807:=hs;have HR:=hide (show (s.data.toList.drop 0).all z0z=R by rw[List.drop_zero];exact hR);rw[hR];clear hR hs;go_enter Tryz.func43,Tryz.ntmps43;go_wp2_with fail;go_loop [3] (fun n=>∃k:Nat,n=.int .i64 k∧k≤s.size∧Hid ((s.data.toList.drop k).all z0z=R)) (fun n=>s.size - (Go.RowKit.intOf n).toNat)
 case atStart=>exact⟨0,rfl,Nat.zero_le _,HR⟩
 case round=>
  obtain⟨k,rfl,hk,hkr⟩:=hrel;by_cases hlt:k<s.size
  · have hi:(k:Int)<s.size:=by omega
    have hb:=zbn (s[k]'hlt) w;have hcons:s.data.toList.drop k=(s[k]'hlt)::s.data.toList.drop (k+1):=List.drop_eq_getElem_cons (l:=s.data.toList) (i:=k) hlt;have hstep:(z0z (s[k]'hlt) && (s.data.toList.drop (k+1)).all z0z)=R:=by rw[←hkr.out,hcons,List.all_cons]
    have HS:=hide hstep;have hidx:∀W:World,(Instr.index 9 (.string s) (.int .i64 (k:Int))).run Tryz.prog W=.ok (.int .u8 ((s[k]'hlt).toNat:Int)) W:=fun W=>by rw[run_index_string (P:=Tryz.prog) W 9 s .i64 _ Tryz.underlying9,dif_pos ⟨by omega,by omega⟩];simp only[Int.toNat_natCast]
    clear hcons hstep
    cases hB:z0z (s[k]'hlt) with
    |true=>
     rw[hB] at hb;have HG:=hide (show (s.data.toList.drop (k+1)).all z0z=R by rw[←HS.out,hB,Bool.true_and]);clear hB;go_wp2_with (go_at_call 71;refine hb.mono ?_;rintro e w' ⟨rfl,rfl⟩);go_round
     case rel=>exact⟨k+1,by go_num,by omega,HG⟩
     case measure=>simp[Go.RowKit.intOf];omega
    |false=>rw[hB] at hb;have HG:=hide (show R=false by rw[←HS.out,hB,Bool.false_and]);clear hB;go_wp2_with (go_at_call 71;refine hb.mono ?_;rintro e w' ⟨rfl,rfl⟩);go_ret;exact⟨by rw[HG.out];rfl,rfl⟩
  · obtain rfl:k=s.size:=by omega
    have HG:=hide (show R=true by rw[←hkr.out,List.drop_of_length_le (show s.data.toList.length≤s.size from Nat.le_refl _)];rfl);go_wp2_with fail;go_ret;exact⟨by rw[HG.out];rfl,rfl⟩
set_option maxRecDepth 100000 in
set_option maxHeartbeats 8000000 in
theorem zih (s:ByteArray)(w:World):Calls Tryz.prog 19 #[.string s] w (RTokensPost s w):=by
 have hl:s.data.toList.length=s.size:=rfl;by_cases hbig:65536<s.size
 · have hr:tokR s.data.toList=([],0,3):=by unfold tokR;rw[if_pos (by omega)]
   have HP:=hide (fun(W:World) (f:Fr (fun _=>False) w W)=>RTokensPost.err (i:=0) hr rfl f);have hi:(65536:Int)<s.size:=by omega
   clear hr hl hbig;go_enter Tryz.func19,Tryz.ntmps19;go_wp2;go_returns;exact HP.out _ (Fr.refl _ _)
 · have hi:¬(65536:Int)<s.size:=by omega
   have hi2:(s.size:Int)≤65536:=by omega
   have HV:=zlk s w (by omega);by_cases hv:(z0h s.data.toList).2=0
   · obtain⟨R,hR⟩:∃R,tokR s.data.toList=R:=⟨_,rfl⟩;have hR2:tokS (s.data.toList.drop 0) 0 []=R:=by rw[←hR,List.drop_zero];unfold tokR;rw[if_neg (by omega),if_neg (by simpa using hv)]
     rw[hv] at HV;have HV:=hide HV;generalize (z0h s.data.toList).1=vk at*;have HPE:=hide (fun(W:World) (p:Nat) (i er:Int) (h:R=([],p,er)) (hi:i=p) (f:Fr (fun _=>False) w W)=>show RTokensPost s w (.returned (.tuple #[.slice none 0 0,.int .i64 i,.int .i64 er])) W from RTokensPost.err (by rw[hR,h]) hi f)
     have HPO:=hide (fun(W:World) (A:Option Addr) (c:Nat) (o:Option Nat) (X:List TokX) (h:R=(X.map (·.m),0,0)) (tl:RTokL W w.heap.size (.slice A X.length c) o X) (f:Fr (fun _=>False) w W)=>show RTokensPost s w (.returned (.tuple #[.slice A X.length c,.int .i64 0,.int .i64 0])) W from
      ⟨A,c,o,X,by rw[hR,h];rfl,tl,by rw[hR,h],f⟩)
     have HR2:=hide hR2;clear hR hR2 hv hbig hl;go_enter Tryz.func19,Tryz.ntmps19;go_wp2_with (go_at_call 37;refine HV.out.mono ?_;rintro e w1 ⟨rfl,f1⟩);have HF1:=hide f1;clear f1;go_loopw [7,8] (fun v iv wr=>∃(i:Nat) (A:Option Addr) (c:Nat) (o:Option Nat) (X:List TokX),v=.slice A X.length c∧iv=.int .i64 i∧i≤s.size∧Hid (RTokenJ s R w wr i (.slice A X.length c) o X)) (fun _ iv _=>s.size - (Go.RowKit.intOf iv).toNat)
     case atStart=>exact⟨0,none,0,none,[],rfl,rfl,Nat.zero_le _,hide ⟨RTokL.nil_ _ _,HR2.out,HF1.out,Nat.le_refl _⟩⟩
     case round=>
      obtain⟨i,A,c,o,X,rfl,rfl,his,hJ⟩:=hrel;have HLEN:=hide (show X.length≤65536 by have:=hJ.out.len;omega);by_cases hlt:i<s.size
      · have hli:(i:Int)<s.size:=by omega
        obtain⟨l,hld⟩:∃l,s.data.toList.drop i=l:=⟨_,rfl⟩;have hll:l.length=s.size - i:=by rw[←hld,List.length_drop];rfl
        have hl0:l≠[]:=fun e=>by rw[e] at hll;simp at hll;omega
        have hhead:l[0]? =some (s[i]'hlt):=by rw[←hld,List.getElem?_drop,Nat.add_zero];exact z0y s i hlt
        have hhd:l.head? =some (s[i]'hlt):=by rw[←hhead];cases l<;>rfl
        have hidx:∀W:World,(Instr.index 9 (.string s) (.int .i64 (i:Int))).run Tryz.prog W=.ok (.int .u8 ((s[i]'hlt).toNat:Int)) W:=fun W=>by rw[run_index_string (P:=Tryz.prog) W 9 s .i64 _ Tryz.underlying9,dif_pos ⟨by omega,by omega⟩];simp only[Int.toNat_natCast]
        have hres:=hJ.out.res;rw[hld] at hres;have hfrw:=hide hJ.out.fr.size;by_cases h60:s[i]'hlt=60
        · have b60:((((s[i]'hlt).toNat:Nat):Int) !=60)=false:=by rw[h60];rfl
          have hrm:=fun W=>zie s i W (by omega) his;rw[hld] at hrm;rw[h60] at hhead hhd;by_cases hre:0<z0c l
          · have hrle:=z3n l;rw[z4p hre] at hres;obtain⟨m,hm⟩:∃m,z0c l=m:=⟨_,rfl⟩;rw[hm] at hrm hres hre hrle;have hmi:(0:Int)<m:=by omega
            have HRM:=hide hrm;have HRES:=hide (show tokS (s.data.toList.drop (i+m)) (i+m) (X.map (·.m))=R by rw[←List.drop_drop,hld];exact hres);have hms:i+m≤s.size:=by omega
            clear hrm hres hhead hhd hld hll hl0 hre hm hrle h60;go_wp2_with (go_at_call 40;refine(HRM.out _).mono ?_;rintro e w2 ⟨rfl,rfl⟩);go_roundw
            case rel=>exact⟨i+m,A,c,o,X,rfl,by go_num,hms,hide ⟨hJ.out.tl,HRES.out,hJ.out.fr,Nat.le_trans hJ.out.len (by omega)⟩⟩
            case measure=>simp[Go.RowKit.intOf];omega
          · have hre0:z0c l=0:=by omega
            rw[hre0] at hrm;have HRM:=hide hrm;rw[z56 hhd hre0] at hres;have h60':(s.data.toList.drop i)[0]? =some 60:=by rw[hld];exact hhead
            unfold tagR at hres
            cases ht:tagP l with
            |none=>
             rw[ht] at hres;simp only at hres;have HT:=hide (fun W=>zw9 s i W (by omega) hlt h60' (by rw[hld];exact ht));have HRES:=hide hres.symm;clear hrm hres hhead hhd hld hll hl0 hre hre0 h60 ht h60'
             go_wp2_with (first
              |(go_at_call 40;refine(HRM.out _).mono ?_;rintro e w2 ⟨rfl,rfl⟩)
              |(go_at_call 41;refine(HT.out _).mono ?_;rintro e w2 ⟨rfl,f2⟩))
             go_returns;exact HPE.out _ i _ 40 HRES.out rfl (Fr.alloc (hJ.out.fr.trans f2) _)
            |some x=>
             obtain⟨kind,name,ats,k⟩:=x;rw[ht] at hres;simp only at hres;obtain⟨tf1,tf2,tf3,tf4,tf5,tf6, -⟩:=z4g ht;have hats:ats.length≤1000000:=Nat.le_trans (zdc ht) (by omega);have hvals:∀a∈ats,a.value.length≤100000∧i+a.off≤1000000:=fun a ha=>by have:=tf6 a ha;omega
             have hty:=fun W=>zt3 s i W (by omega) hlt h60' (by rw[hld];exact ht);obtain⟨nn,hnn⟩:∃nn:ByteArray,(⟨name.toArray⟩:ByteArray)=nn:=⟨_,rfl⟩;rw[hnn] at hty;have HT:=hide hty;have hk0:((k:Int)==0)=false:=by simp;omega
             have hks:i+k≤s.size:=by omega
             have hk1:0<k:=by omega
             have HRDd:=hide (fun(W:World) (A:Option Addr) (c:Nat) (o:Option Nat) (hm:Own rawC W 132 (.slice A ats.length c) o (ats.map (rawV i)))=>zoz i kind nn A c (i:Int) o ats W hm hats hvals)
             cases hrp:z26 ats with
             |inr y=>
              obtain⟨off,er⟩:=y;rw[hrp] at hres;simp only at hres;have HRES:=hide hres.symm;have her:=(zbx hrp).1;have erb:(er !=0)=true:=by simpa using her
              have HRD:=hide (fun(W:World) (A:Option Addr) (c:Nat) (o:Option Nat) hm=>(HRDd.out W A c o hm).mono (R':=fun e w'=>e=.returned (.tuple #[.agg #[.int .u8 0,.string ⟨#[]⟩,.slice none 0 0,.string ⟨#[]⟩,.int .i64 0],.int .i64 ((i+off:Nat):Int),.int .i64 er])∧Fr (fun k=>o=some k) W w') (fun e w' hp=>by obtain⟨hf,hmm⟩:=hp;rw[hrp] at hmm;exact⟨hmm,hf⟩));clear hrm hres hhead hhd hld hll hl0 hre hre0 h60 ht h60' hty tf1 tf2 tf3 tf4 tf5 tf6 hats hvals hnn hrp HRDd her
              go_wp2_with (first
               |(go_at_call 40;refine(HRM.out _).mono ?_;rintro e w2 ⟨rfl,rfl⟩)
               |(go_at_call 41;refine(HT.out _).mono ?_;rintro e w2 ⟨A2,c2,o2,rfl,own2,new2,f2⟩;have OWN2:=hide (own2.fr (Fr.alloc (Fr.refl (fun _=>False) w2) (.cells #[.int .u8 kind,.string nn,.slice A2 ats.length c2,.string ⟨#[]⟩,.int .i64 (i:Int)] 63)) (fun _ _ h=>h)))
               |(go_at_call 42;refine(HRD.out _ _ _ _ OWN2.out).mono ?_;rintro e w3 ⟨rfl,f3⟩;have hbx:=hide (show RTokAt w3 w2.heap.size kind nn (.slice A2 ats.length c2) ⟨#[]⟩ (i:Int) from⟨by rw[f3.block _ (by simp) (fun e=>by have:=(new2 _ e).2;omega),heap_alloc_new]⟩);obtain⟨z0,z1,z2,z3,z4,z5⟩:=hbx.out.facts))
              have hW:=(hbx.out.storeD 0 ⟨#[]⟩ (.slice none 0 0) ⟨#[]⟩ 0).2;have hs2:=f2.size;go_returns;exact HPE.out _ (i+off) _ er HRES.out rfl (((Fr.alloc (hJ.out.fr.trans f2) _).then_ f3 (fun x h1 h2=>by have:=hfrw.out;have:=(new2 x h2).1;omega)).then_ hW (fun x h1 h2=>by have:=hfrw.out;omega))
             |inl vs=>
              rw[hrp] at hres;simp only at hres;have hvl:=zao hrp;by_cases h32:32<vs.length
              · rw[if_pos h32] at hres;simp only at hres;have HRES:=hide hres.symm;have HRD:=hide (fun(W:World) (A:Option Addr) (c:Nat) (o:Option Nat) hm=>(HRDd.out W A c o hm).mono (R':=fun e w'=>e=.returned (.tuple #[.agg #[.int .u8 0,.string ⟨#[]⟩,.slice none 0 0,.string ⟨#[]⟩,.int .i64 0],.int .i64 (i:Int),.int .i64 3])∧Fr (fun k=>o=some k) W w') (fun e w' hp=>by obtain⟨hf,hmm⟩:=hp;rw[hrp] at hmm;simp only at hmm;rw[if_pos h32] at hmm;exact⟨hmm,hf⟩));clear hrm hres hhead hhd hld hll hl0 hre hre0 h60 ht h60' hty tf1 tf2 tf3 tf4 tf5 tf6 hats hvals hnn hrp HRDd hvl h32
                go_wp2_with (first
                 |(go_at_call 40;refine(HRM.out _).mono ?_;rintro e w2 ⟨rfl,rfl⟩)
                 |(go_at_call 41;refine(HT.out _).mono ?_;rintro e w2 ⟨A2,c2,o2,rfl,own2,new2,f2⟩;have OWN2:=hide (own2.fr (Fr.alloc (Fr.refl (fun _=>False) w2) (.cells #[.int .u8 kind,.string nn,.slice A2 ats.length c2,.string ⟨#[]⟩,.int .i64 (i:Int)] 63)) (fun _ _ h=>h)))
                 |(go_at_call 42;refine(HRD.out _ _ _ _ OWN2.out).mono ?_;rintro e w3 ⟨rfl,f3⟩;have hbx:=hide (show RTokAt w3 w2.heap.size kind nn (.slice A2 ats.length c2) ⟨#[]⟩ (i:Int) from⟨by rw[f3.block _ (by simp) (fun e=>by have:=(new2 _ e).2;omega),heap_alloc_new]⟩);obtain⟨z0,z1,z2,z3,z4,z5⟩:=hbx.out.facts))
                have hW:=(hbx.out.storeD 0 ⟨#[]⟩ (.slice none 0 0) ⟨#[]⟩ 0).2;have hs2:=f2.size;go_returns;exact HPE.out _ i _ 3 HRES.out rfl (((Fr.alloc (hJ.out.fr.trans f2) _).then_ f3 (fun x h1 h2=>by have:=hfrw.out;have:=(new2 x h2).1;omega)).then_ hW (fun x h1 h2=>by have:=hfrw.out;omega))
              · rw[if_neg h32] at hres;simp only at hres;have HRES:=hide (show tokS (s.data.toList.drop (i+k)) (i+k) ((X.map (·.m))++[⟨kind,name,vs,[],i⟩])=R by rw[←List.drop_drop,hld];exact hres);have HRD:=hide (fun(W:World) (A:Option Addr) (c:Nat) (o:Option Nat) hm=>(HRDd.out W A c o hm).mono (R':=fun e w'=>e=.returned (.tuple #[.agg #[.int .u8 kind,.string nn,.slice A vs.length c,.string ⟨#[]⟩,.int .i64 (i:Int)],.int .i64 0,.int .i64 0])∧(∃L:List RawV,Own rawC w' 132 (.slice A vs.length c) o L∧L.map nv=vs.map z3d)∧Fr (fun k=>o=some k) W w') (fun e w' hp=>by obtain⟨hf,hmm⟩:=hp;rw[hrp] at hmm;simp only at hmm;rw[if_neg h32] at hmm;exact⟨hmm.1,hmm.2,hf⟩));have HXOK:=hide (fun(W:World) (A3:Option Addr) (c3:Nat) (oa:Option Nat) (own:∃L:List RawV,Own rawC W 132 (.slice A3 vs.length c3) oa L∧L.map nv=vs.map z3d)=>show RTokOk W ⟨⟨kind,nn,A3,vs.length,c3,⟨#[]⟩,(i:Int)⟩,oa,⟨kind,name,vs,[],i⟩⟩ from⟨rfl,hnn.symm,rfl,rfl,rfl,own⟩);clear hrm hres hhead hhd hld hll hl0 hre hre0 h60 ht h60' hty tf1 tf2 tf3 tf4 tf5 tf6 hats hvals hnn hrp HRDd hvl h32
                go_wp2_with (first
                 |(go_at_call 40;refine(HRM.out _).mono ?_;rintro e w2 ⟨rfl,rfl⟩)
                 |(go_at_call 41;refine(HT.out _).mono ?_;rintro e w2 ⟨A2,c2,o2,rfl,own2,new2,f2⟩;have OWN2:=hide (own2.fr (Fr.alloc (Fr.refl (fun _=>False) w2) (.cells #[.int .u8 kind,.string nn,.slice A2 ats.length c2,.string ⟨#[]⟩,.int .i64 (i:Int)] 63)) (fun _ _ h=>h)))
                 |(go_at_call 42;refine(HRD.out _ _ _ _ OWN2.out).mono ?_;rintro e w3 ⟨rfl,hown3,f3⟩;have hbx:=hide (show RTokAt w3 w2.heap.size kind nn (.slice A2 ats.length c2) ⟨#[]⟩ (i:Int) from⟨by rw[f3.block _ (by simp) (fun e=>by have:=(new2 _ e).2;omega),heap_alloc_new]⟩);obtain⟨z0,z1,z2,z3,z4,z5⟩:=hbx.out.facts;have BW:=hide (hbx.out.storeD kind nn (.slice A2 vs.length c2) ⟨#[]⟩ (i:Int));
                   have TL3:=hide (((hJ.out.tl.frNew f2 (fun _ _ h=>h)).frNew (Fr.alloc (Fr.refl (fun _=>False) w2) (.cells #[.int .u8 kind,.string nn,.slice A2 ats.length c2,.string ⟨#[]⟩,.int .i64 (i:Int)] 63)) (fun _ _ h=>h)).fr f3 (fun x _ h2 h3 e=>by
                    have h4:x<wr.heap.size:=by
                     rcases h3 with h3|⟨y,hy,h3⟩
                     · exact(hJ.out.tl.new x h3).2
                     · exact(hJ.out.tl.newa y hy x h3).2.1
                    have:=(new2 x e).1;omega));
                   have TL4:=hide (TL3.out.fr BW.out.2 (fun x _ h2 h3 e=>by
                    have h4:x<wr.heap.size:=by
                     rcases h3 with h3|⟨y,hy,h3⟩
                     · exact(hJ.out.tl.new x h3).2
                     · exact(hJ.out.tl.newa y hy x h3).2.1
                    have:=f2.size;omega)))
                 |(at_builtin;(refine z0d rfl rfl zif (by rfl) (by rfl) (TL4.out.own.fr (Fr.alloc (Fr.refl (fun _=>False) _) _) (fun _ _ h=>h)) (zlw (n:=w3.heap.size) _ ⟨kind,nn,A2,vs.length,c2,⟨#[]⟩,(i:Int)⟩ _ (by simp)) (by have:=HLEN.out;simp;omega) ?_);intro B1 d1 w4 o4 m4 g4 n4))
                have hs2:=f2.size;have hs3:=f3.size;have hbs:=BW.out.2.size;have h5:Fr (fun _=>False) (((((w3.setCell ⟨w2.heap.size,0,none⟩ (.int .u8 kind)).setCell ⟨w2.heap.size,1,none⟩ (.string nn)).setCell ⟨w2.heap.size,2,none⟩ (.slice A2 vs.length c2)).setCell ⟨w2.heap.size,3,none⟩ (.string ⟨#[]⟩)).setCell ⟨w2.heap.size,4,none⟩ (.int .i64 (i:Int))) ((((((w3.setCell ⟨w2.heap.size,0,none⟩ (.int .u8 kind)).setCell ⟨w2.heap.size,1,none⟩ (.string nn)).setCell ⟨w2.heap.size,2,none⟩ (.slice A2 vs.length c2)).setCell ⟨w2.heap.size,3,none⟩ (.string ⟨#[]⟩)).setCell ⟨w2.heap.size,4,none⟩ (.int .i64 (i:Int))).alloc (.cells #[.int .u8 kind,.string nn,.slice A2 vs.length c2,.string ⟨#[]⟩,.int .i64 (i:Int)] 63)):=Fr.alloc (Fr.refl _ _) _;have OW:=hide (((HXOK.out w3 A2 c2 o2 hown3).fr BW.out.2 (fun x hx e=>by have:=(new2 x hx).2;omega)).fr h5 (fun _ _ h=>h));have TL5:=hide (TL4.out.frNew h5 (fun _ _ h=>h));have hown4:Own tokC w4 63 (.slice B1 (X.length+1) d1) o4 (X.map (·.t)++[⟨kind,nn,A2,vs.length,c2,⟨#[]⟩,(i:Int)⟩]):=by simpa using m4
                have hs5:=h5.size;simp only[World.size_alloc] at hs3;have hbs':w3.heap.size≤(((((w3.setCell ⟨w2.heap.size,0,none⟩ (.int .u8 kind)).setCell ⟨w2.heap.size,1,none⟩ (.string nn)).setCell ⟨w2.heap.size,2,none⟩ (.slice A2 vs.length c2)).setCell ⟨w2.heap.size,3,none⟩ (.string ⟨#[]⟩)).setCell ⟨w2.heap.size,4,none⟩ (.int .i64 (i:Int))).heap.size:=hbs;have TL6:=hide (TL5.out.snoc (v':=.slice B1 (X.length+1) d1) OW.out (fun x hx=>by have hn:=new2 x hx;have:=hfrw.out;refine⟨by omega,by omega,fun e=> ?_⟩;have:=(hJ.out.tl.new x e).2;omega) hown4 g4 n4 (by have:=hfrw.out;omega));have FF:=hide ((((((hJ.out.fr.trans f2).alloc (.cells #[.int .u8 kind,.string nn,.slice A2 ats.length c2,.string ⟨#[]⟩,.int .i64 (i:Int)] 63)).then_ f3 (fun x h1 h2=>by have:=hfrw.out;have:=(new2 x h2).1;omega)).then_ BW.out.2 (fun x h1 h2=>by have:=hfrw.out;omega)).trans h5).then_ g4 (fun x h1 h2=>by have:=(hJ.out.tl.new x h2).1;omega));go_roundw
                case rel=>exact⟨i+k,B1,d1,o4,X++[⟨⟨kind,nn,A2,vs.length,c2,⟨#[]⟩,(i:Int)⟩,o2,⟨kind,name,vs,[],i⟩⟩],by simp,by go_num,hks,hide ⟨by simpa using TL6.out,by rw[List.map_append];exact HRES.out,FF.out,by rw[List.length_append];have:=hJ.out.len;simp only[List.length_cons,List.length_nil];omega⟩⟩
                case measure=>simp[Go.RowKit.intOf];omega
        · have b60:((((s[i]'hlt).toNat:Nat):Int) !=60)=true:=by rw[bne_iff_ne];intro e;exact h60 (UInt8.toNat_inj.1 (by show _=60;omega))
          have hne:l.head? ≠some 60:=by rw[hhd];intro e;exact h60 (Option.some.inj e)
          obtain⟨n,hn⟩:∃n,(l.takeWhile (· !=60)).length=n:=⟨_,rfl⟩;have hn0:=z54 hl0 hne;have hnl:=z14 (· !=60) l;rw[z71 hl0 hne] at hres;rw[hn] at hn0 hnl hres;obtain⟨v,hv2⟩:∃v,s.extract i (i+n)=v:=⟨_,rfl⟩;have hvl:v.data.toList=l.takeWhile (· !=60):=by rw[←hv2,z08,hld,show i+n - i=n by omega,←hn];exact z4a l _
          have hvz:v.size≤100000:=by have:v.data.toList.length=v.size:=rfl;rw[hvl,hn] at this;omega
          have hd:=fun W=>zc0 v W hvz;rw[hvl] at hd;unfold wp3 at hd;have hf:=fun W=>zal s ⟨#[60]⟩ i W (by omega) (by decide) his;rw[hld,show (⟨#[60]⟩:ByteArray).data.toList=[60] from rfl] at hf;unfold zbo at hf;rw[zbp,hn] at hf;obtain⟨E,hE⟩:∃E:Int,((i+n:Nat):Int)=E:=⟨_,rfl⟩;have hEs:E≤s.size:=by omega
          have hE0:¬E<0:=by omega
          have hE1:(i:Int)≤E:=by omega
          have hsl:∀W:World,(Instr.slice 9 (.string s) (some (.int .i64 (i:Int))) (some (.int .i64 E)) none).run Tryz.prog W=.ok (.string v) W:=fun W=>by rw[run_slice_string_if (P:=Tryz.prog) W 9 s .i64 .i64 _ _ Tryz.underlying9,if_pos ⟨by omega,by omega⟩,if_pos ⟨by omega,by omega⟩,←hv2,←hE];congr 3
          have HEE:=hide hE;have HN:=hide (And.intro hn0 (show i+n≤s.size by omega))
          have hout:(∀W,Calls Tryz.prog 38 #[.string s,.int .i64 i,.string ⟨#[60]⟩] W fun e w'=>e=.returned (.int .i64 E)∧W=w')∨(E=s.size∧∀W,Calls Tryz.prog 38 #[.string s,.int .i64 i,.string ⟨#[60]⟩] W fun e w'=>e=.returned (.int .i64 (-1))∧W=w'):=by
           by_cases hm:(60:UInt8)∈l
           · rw[if_pos hm] at hf;refine .inl (fun W=> ?_);have:=hf W;simp only at this;rw[hE] at this;exact this
           · rw[if_neg hm] at hf;refine .inr ⟨?_,hf⟩;rw[z5d hm] at hn;omega
          obtain⟨dt,hdt⟩:∃dt:ByteArray,(⟨(z04 (l.takeWhile (· !=60))).1.toArray⟩:ByteArray)=dt:=⟨_,rfl⟩;rw[hdt] at hd;have hldn:s.data.toList.drop (i+n)=l.drop n:=by rw[←List.drop_drop,hld]
          by_cases he:(z04 (l.takeWhile (· !=60))).2.2=0
          · rw[if_neg (by simpa using he)] at hres;rw[he] at hd;have HRES:=hide (show tokS (s.data.toList.drop (i+n)) (i+n) ((X.map (·.m))++[⟨4,[],[],(z04 (l.takeWhile (· !=60))).1,i⟩])=R by rw[hldn];exact hres);have HXOK:=hide (fun(W:World)=>show RTokOk W ⟨⟨4,⟨#[]⟩,none,0,0,dt,(i:Int)⟩,none,⟨4,[],[],(z04 (l.takeWhile (· !=60))).1,i⟩⟩ from⟨rfl,rfl,hdt.symm,rfl,rfl,[],Own.nil_ _ _ _ _,rfl⟩);generalize (z04 (l.takeWhile (· !=60))).2.1=dk at*;generalize (z04 (l.takeWhile (· !=60))).1=dl at*;have HD:=hide hd;have HOUT:=hide hout;clear hres hf hd hvl hvz hv2 hne hn hn0 hnl hhead hhd hld hll hl0 h60 hE hout hdt hldn he;rcases HOUT.out with hF|⟨hEq,hF⟩
            · have HF:=hide hF;clear hF HOUT
              go_wp2_with (first
               |(go_at_call 38;refine(HF.out _).mono ?_;rintro e w2 ⟨rfl,rfl⟩)
               |(go_at_call 39;refine(HD.out _).mono ?_;rintro e w2 ⟨rfl,f2⟩;have TL2:=hide (hJ.out.tl.frNew f2 (fun _ _ h=>h)))
               |(at_builtin;(refine z0d rfl rfl zif (by rfl) (by rfl) (TL2.out.own.fr (Fr.alloc (Fr.refl (fun _=>False) _) _) (fun _ _ h=>h)) (zig _ ⟨4,⟨#[]⟩,none,0,0,dt,(i:Int)⟩ _) (by have:=HLEN.out;simp;omega) ?_);intro B1 d1 w4 o4 m4 g4 n4))
              have h5:Fr (fun _=>False) w2 (w2.alloc (.cells #[.int .u8 4,.string ⟨#[]⟩,.slice none 0 0,.string dt,.int .i64 (i:Int)] 63)):=Fr.alloc (Fr.refl _ _) _;have hown4:Own tokC w4 63 (.slice B1 (X.length+1) d1) o4 (X.map (·.t)++[⟨4,⟨#[]⟩,none,0,0,dt,(i:Int)⟩]):=by simpa using m4
              have TL5:=hide (TL2.out.frNew h5 (fun _ _ h=>h));have hs2:=f2.size;have hs5:=h5.size;have TL6:=hide (TL5.out.snoc (v':=.slice B1 (X.length+1) d1) (HXOK.out _) (fun x hx=>by cases hx) hown4 g4 n4 (by have:=hfrw.out;omega));have FF:=hide (((hJ.out.fr.trans f2).trans h5).then_ g4 (fun x h1 h2=>by have:=(hJ.out.tl.new x h2).1;omega));obtain⟨hn0,hns⟩:=HN.out;have hE:=HEE.out;go_roundw
              case rel=>exact⟨i+n,B1,d1,o4,X++[⟨⟨4,⟨#[]⟩,none,0,0,dt,(i:Int)⟩,none,⟨4,[],[],dl,i⟩⟩],by simp,by rw[hE],hns,hide ⟨by simpa using TL6.out,by rw[List.map_append];exact HRES.out,FF.out,by rw[List.length_append];have:=hJ.out.len;simp only[List.length_cons,List.length_nil];omega⟩⟩
              case measure=>simp[Go.RowKit.intOf];omega
            · subst hEq;have HF:=hide hF;clear hF HOUT
              go_wp2_with (first
               |(go_at_call 38;refine(HF.out _).mono ?_;rintro e w2 ⟨rfl,rfl⟩)
               |(go_at_call 39;refine(HD.out _).mono ?_;rintro e w2 ⟨rfl,f2⟩;have TL2:=hide (hJ.out.tl.frNew f2 (fun _ _ h=>h)))
               |(at_builtin;(refine z0d rfl rfl zif (by rfl) (by rfl) (TL2.out.own.fr (Fr.alloc (Fr.refl (fun _=>False) _) _) (fun _ _ h=>h)) (zig _ ⟨4,⟨#[]⟩,none,0,0,dt,(i:Int)⟩ _) (by have:=HLEN.out;simp;omega) ?_);intro B1 d1 w4 o4 m4 g4 n4))
              have h5:Fr (fun _=>False) w2 (w2.alloc (.cells #[.int .u8 4,.string ⟨#[]⟩,.slice none 0 0,.string dt,.int .i64 (i:Int)] 63)):=Fr.alloc (Fr.refl _ _) _;have hown4:Own tokC w4 63 (.slice B1 (X.length+1) d1) o4 (X.map (·.t)++[⟨4,⟨#[]⟩,none,0,0,dt,(i:Int)⟩]):=by simpa using m4
              have TL5:=hide (TL2.out.frNew h5 (fun _ _ h=>h));have hs2:=f2.size;have hs5:=h5.size;have TL6:=hide (TL5.out.snoc (v':=.slice B1 (X.length+1) d1) (HXOK.out _) (fun x hx=>by cases hx) hown4 g4 n4 (by have:=hfrw.out;omega));have FF:=hide (((hJ.out.fr.trans f2).trans h5).then_ g4 (fun x h1 h2=>by have:=(hJ.out.tl.new x h2).1;omega));obtain⟨hn0,hns⟩:=HN.out;have hE:=HEE.out;go_roundw
              case rel=>exact⟨i+n,B1,d1,o4,X++[⟨⟨4,⟨#[]⟩,none,0,0,dt,(i:Int)⟩,none,⟨4,[],[],dl,i⟩⟩],by simp,by rw[hE],hns,hide ⟨by simpa using TL6.out,by rw[List.map_append];exact HRES.out,FF.out,by rw[List.length_append];have:=hJ.out.len;simp only[List.length_cons,List.length_nil];omega⟩⟩
              case measure=>simp[Go.RowKit.intOf];omega
          · rw[if_pos he] at hres;have erb:((z04 (l.takeWhile (· !=60))).2.2 !=0)=true:=by simpa using he
            have hpl:(z04 (l.takeWhile (· !=60))).2.1≤100000:=by have:=z2g (l.takeWhile (· !=60));omega
            have HRES:=hide hres.symm;generalize (z04 (l.takeWhile (· !=60))).2.1=dk at*;generalize (z04 (l.takeWhile (· !=60))).2.2=de at*;generalize (z04 (l.takeWhile (· !=60))).1=dl at*;have HD:=hide hd;have HOUT:=hide hout;clear hres hf hd hvl hvz hv2 hne hn hn0 hnl hhead hhd hld hll hl0 h60 hE hout hdt hldn he;rcases HOUT.out with hF|⟨hEq,hF⟩
            · have HF:=hide hF;clear hF HOUT
              go_wp2_with (first
               |(go_at_call 38;refine(HF.out _).mono ?_;rintro e w2 ⟨rfl,rfl⟩)
               |(go_at_call 39;refine(HD.out _).mono ?_;rintro e w2 ⟨rfl,f2⟩))
              go_returns;exact HPE.out _ (i+dk) _ _ HRES.out (by omega) (hJ.out.fr.trans f2)
            · subst hEq;have HF:=hide hF;clear hF HOUT
              go_wp2_with (first
               |(go_at_call 38;refine(HF.out _).mono ?_;rintro e w2 ⟨rfl,rfl⟩)
               |(go_at_call 39;refine(HD.out _).mono ?_;rintro e w2 ⟨rfl,f2⟩))
              go_returns;exact HPE.out _ (i+dk) _ _ HRES.out (by omega) (hJ.out.fr.trans f2)
      · obtain rfl:i=s.size:=by omega
        have hres:=hJ.out.res;rw[List.drop_of_length_le (show s.data.toList.length≤s.size from Nat.le_refl _),zap] at hres;have HRES:=hide hres.symm;clear hres;go_wp2_with fail;go_returns;exact HPO.out _ A c o X HRES.out hJ.out.tl hJ.out.fr
   · have hr:tokR s.data.toList=([],(z0h s.data.toList).1,(z0h s.data.toList).2):=by unfold tokR;rw[if_neg (by omega),if_pos hv]
     have HP:=hide (fun(W:World) (f:Fr (fun _=>False) w W)=>RTokensPost.err hr rfl f);have hvb:((z0h s.data.toList).2 !=0)=true:=by simpa using hv
     have HV:=hide HV;clear hr hl hbig hv;generalize (z0h s.data.toList).1=vk at*;generalize (z0h s.data.toList).2=ve at*;go_enter Tryz.func19,Tryz.ntmps19;go_wp2_with (go_at_call 37;refine HV.out.mono ?_;rintro e w1 ⟨rfl,f1⟩);go_returns;exact HP.out _ f1
end Go.Proofs.YtnlacmnoocigiaaGreatDoor
