/- tree: an Empty; Parse's round. -/
import Derived.Test.YtnlacmnoocigiaaGreatDoorTreH
import Derived.Test.YtnlacmnoocigiaaGreatDoorTreJk
namespace Go.Proofs.YtnlacmnoocigiaaGreatDoor
open Go.RowKit Go.Lib
attribute [local go_sem ↓] Go.wp_at_zero Go.wp_at_succ
theorem zgz (w:World)(base b:Nat)(st:BldM)(x:Tok)(A:Option Addr)(c:Nat)(S:Nat→Prop)(h:OpS w base b st x A c S):
 Calls Tryz.prog 24 #[.pointer (some ⟨b,0,none⟩),tokA x A (z01 x).length c] w (z10 w base b (z0n st x)):=by
 cases hr:z0n st x with
 |inr er=>exact zpx w base b st x A c S h er hr
 |inl st'=>
  by_cases hi:st.inn= -1
  · exact zm8 w base b st x A c S h hi st' hr
  · obtain⟨p,hp, -, -,hpL, -, -⟩:=h.iv.open_ hi;have hl:z2a st=st.lasts[p]:=by unfold z2a;rw[hp,Int.toNat_natCast,List.getElem?_eq_getElem hpL];rfl
    rcases h.iv.last hpL with g|g
    · exact ziv w base b st x A c S h p hp (by rw[hl];exact g) st' hr
    · exact zm9 w base b st x A c S h p hp st.lasts[p].toNat (by rw[hl];omega) st' hr
set_option maxRecDepth 100000 in
set_option maxHeartbeats 4000000 in
theorem zq0 (w:World)(base b:Nat)(st:BldM)(x:Tok)(A:Option Addr)(c:Nat)(S:Nat→Prop)(h:OpS w base b st x A c S):
 Calls Tryz.prog 26 #[.pointer (some ⟨b,0,none⟩),tokA x A (z01 x).length c] w (z10 w base b (z4r st x)):=by
 unfold tokA;have fa:Fr (fun _=>False) w (w.alloc (.cells #[.int .u8 (x.kind:Int),.string (bs x.name),.slice A (z01 x).length c,.string (bs x.text),.int .i64 (x.at_:Int)] 76)):=Fr.alloc (Fr.refl _ _) _
 have h1:OpS (w.alloc (.cells #[.int .u8 (x.kind:Int),.string (bs x.name),.slice A (z01 x).length c,.string (bs x.text),.int .i64 (x.at_:Int)] 76)) base b st x A c S:=
  ⟨h.hb.same fa,h.iv,h.rd.fr fa (fun k hk=>⟨h.hS k hk,fun h=>h⟩),fun k hk=>Nat.lt_of_lt_of_le (h.hS k hk) fa.size,h.hl,Nat.le_trans h.bw fa.size⟩
 have H1:=zgz _ base b st x A c S h1;unfold tokA at H1;have FA:=hide fa
 cases hr:z0n st x with
 |inr er=>
  have hne:er≠0:=by
   unfold z0n at hr;split at hr
   · cases hr;decide
   · split at hr
     · cases hr;decide
     · cases hr
  have hne2:(er==0)=false:=by rw[beq_eq_false_iff_ne];exact hne
  have hres:z4r st x=.inr er:=by unfold z4r;rw[hr]
  rw[hres];rw[hr] at H1;have HO:=hide H1;clear H1 h1 fa hr hres;go_enter Tryz.func26,Tryz.ntmps26;go_wp2_with (go_at_call 24;refine HO.out.mono ?_;rintro e w1 ⟨rfl,f1⟩);go_ret;exact⟨rfl,FA.out.trans f1⟩
 |inl st'=>
  have hres:z4r st x=.inl (z3x st'):=by unfold z4r;rw[hr]
  rw[hres];have iv':=h.iv.opens hr
  have hst:st'.inn≠ -1∧(z11 st').size≤9223372036854775807:=by
   unfold z0n at hr;split at hr
   · cases hr
   · split at hr
     · cases hr
     · simp only[Sum.inl.injEq] at hr;subst hr;refine⟨by show (st.nodes.length:Int)≠ -1;omega, ?_⟩;unfold z11;simp only[Int.toNat_natCast];rw[←h.iv.t,zas];exact Nat.zero_le _
  rw[hr] at H1;have HO:=hide H1;have HE:=hide (fun(W:World) (hS:BldS W base b st')=>zkg W base b st' hS iv' hst.1 hst.2);clear H1 h1 fa hr hres iv' hst;go_enter Tryz.func26,Tryz.ntmps26
  go_wp2_with (first
   |(go_at_call 24;refine HO.out.mono ?_;rintro e w1 ⟨rfl,hS,f1⟩)
   |(go_at_call 52;refine(HE.out _ hS).mono ?_;rintro e w2 ⟨rfl,hS2,f2⟩))
  go_ret;exact⟨rfl,hS2,((FA.out.mono (fun _ h=>h.elim)).trans f1).trans f2⟩
end Go.Proofs.YtnlacmnoocigiaaGreatDoor
