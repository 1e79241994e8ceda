/- Traces: the law TraceGets: any text is the records that the document says; what is answered may be written over. -/
import Derived.Test.YtpjodoipceddpaaGreatDoorRcL
namespace Go.Proofs.YtpjodoipceddpaaGreatDoor.Aw
open Go.RowKit Go.Lib Rc
set_option maxHeartbeats 8000000
set_option maxRecDepth 100000
theorem unfz_cell {W:World} {k i:Nat} {v:Value} (h:Unfz W k) (hc:W.cell? ⟨k,i,none⟩=some v):W.frozen? ⟨k,i,none⟩=false:=by
 cases hb:W.heap[k]? with
 |none=>simp[World.cell?,hb] at hc
 |some o=>
  cases o with
  |cells arr e fz=>
   have:=h arr e fz hb
   subst this
   exact frozen_of_row W k i arr e hb
  |_=>simp[World.cell?,hb] at hc
theorem con_ro {P:Program} {w:World} {f:FuncId} {args:List AV} {l:List (List AV)} {S:Nat→Prop} {vs:List Value} (h:ConAt P w f args (.ro l) []) (hS:∀k,S k→k<w.heap.size) (hl:args.length=vs.length) (hv:∀(i:Nat) x v,args[i]? =some x→vs[i]? =some v→VC S w x v):
 Calls P f vs.toArray w fun e w'=>∃u S',e=.returned u∧(∀k,S' k→k<w'.heap.size)∧VC S' w' (.ro l) u∧Fr (fun _=>False) w w':=
 (h S vs hS hl hv).mono fun e w' ⟨v,I,he,hm,hv⟩=>⟨v,I.S,he,hm.slt,hv.ro_inv,hm.fr⟩
theorem con_get {P:Program} {w:World} {f:FuncId} {s:ByteArray} {l:List (List AV)} {a b:Value} (h:ConAt P w f (eS s) (.tup [.ro l,.sc a,.sc b]) []):
 Calls P f #[.string s] w fun e w'=>∃u S',e=.returned (.tuple #[u,a,b])∧(∀k,S' k→w.heap.size≤k∧k<w'.heap.size∧Unfz w' k)∧VC S' w' (.ro l) u∧Fr (fun _=>False) w w':=by
 refine(h (fun _=>False) [.string s] (fun k hk=>hk.elim) rfl (fun i x v hx hv=> ?_)).mono fun e w' ⟨v,I,he,hm,hv⟩=> ?_
 · match i with
   |0=>cases hx;cases hv;exact .sc _
   |i+1=>simp[eS] at hx
 · obtain⟨vs,rfl,hl,hvs⟩:=hv.tup_inv
   match vs,hl with
   |[u,a',b'],_=>
    have ha:=(hvs 1 _ a' rfl rfl).sc_inv
    have hb:=(hvs 2 _ b' rfl rfl).sc_inv
    subst ha hb
    exact⟨u,I.S,he,fun k hk=>⟨((hm.snew k hk).resolve_left (fun h=>h)).1,hm.slt k hk,((hm.snew k hk).resolve_left (fun h=>h)).2⟩,(hvs 0 _ u rfl rfl).ro_inv,hm.fr⟩
structure Spl (S:Nat→Prop) (w2 W:World) (A:Option Addr) (n i:Nat):Prop where
 fr:Fr S w2 W
 st:∀k,S k→∀x v,w2.cell? ⟨k,x,none⟩=some v→∃v',W.cell? ⟨k,x,none⟩=some v'∧∀kd m,v=.int kd m→∃m',v'=.int kd m'
 uz:∀k,S k→∀x v,w2.cell? ⟨k,x,none⟩=some v→W.frozen? ⟨k,x,none⟩=false
 hd:∀j,i≤j→j<n→∀g o,A=some ⟨g,o,none⟩→W.cell? ⟨g,o+j*5+4,none⟩=w2.cell? ⟨g,o+j*5+4,none⟩
theorem Spl.start {S:Nat→Prop} {w2:World} {A:Option Addr} {n:Nat} (h:∀k,S k→Unfz w2 k):Spl S w2 w2 A n 0:=
 ⟨Fr.refl _ _,fun k hk x v hv=>⟨v,hv,fun kd m h=>⟨m,h⟩⟩,fun k hk x v hv=>unfz_cell (h k hk) hv,fun j _ _ g o _=>rfl⟩
theorem Spl.set {S:Nat→Prop} {w2 W:World} {A:Option Addr} {n i i' k x:Nat} {v0 u:Value} (h:Spl S w2 W A n i) (hS:S k) (hi:i≤i') (hc:w2.cell? ⟨k,x,none⟩=some v0)
 (hu:∀kd m,v0=.int kd m→∃m',u=.int kd m') (hne:∀j,i'≤j→j<n→∀g o,A=some ⟨g,o,none⟩→¬(k=g∧x=o+j*5+4)):Spl S w2 (W.setCell ⟨k,x,none⟩ u) A n i':=by
 obtain⟨v1,hv1,hv2⟩:=h.st k hS x v0 hc
 refine⟨h.fr.setCell (.inl hS) u,fun k' hk' x' v hv=> ?_,fun k' hk' x' v hv=> ?_,fun j hj hjn g o hA=> ?_⟩
 · by_cases e:k'=k∧x'=x
   · obtain⟨rfl,rfl⟩:=e
     rw[hc] at hv
     cases hv
     exact⟨u,World.cell?_setCell_same _ _ _ hv1,hu⟩
   · rw[World.cell?_setCell_other _ _ _ _ (by intro h;simp only[Addr.mk.injEq,and_true] at h;exact e ⟨h.1.symm,h.2.symm⟩)]
     exact h.st k' hk' x' v hv
 · rw[World.frozen?_setCell]
   exact h.uz k' hk' x' v hv
 · rw[World.cell?_setCell_other _ _ _ _ (by intro h;simp only[Addr.mk.injEq,and_true] at h;exact hne j hj hjn g o hA h)]
   exact h.hd j (by omega) hjn g o hA
theorem Spl.up {S:Nat→Prop} {w2 W:World} {A:Option Addr} {n i i':Nat} (h:Spl S w2 W A n i) (hi:i≤i'):Spl S w2 W A n i':=⟨h.fr,h.st,h.uz,fun j hj=>h.hd j (by omega)⟩
theorem Spl.at_ {S:Nat→Prop} {w2 W:World} {A:Option Addr} {c i:Nat} {X:List RecM} (h:Spl S w2 W A X.length i) (hv:VC S w2 (.ro (cRl X)) (.slice A X.length c)) (hi:i<X.length):
 ∃g o A4 m c4,A=some ⟨g,o,none⟩∧S g∧m≤9223372036854775807∧W.cell? ⟨g,o+i*5+4,none⟩=some (.slice A4 m c4)∧(∀k,k<m→∃g4 o4 n,A4=some ⟨g4,o4,none⟩∧S g4∧w2.cell? ⟨g4,o4+k,none⟩=some (.int .i64 n))∧
  (∃n0 n1 n2 n3,w2.cell? ⟨g,o+i*5,none⟩=some (.int .u8 n0)∧w2.cell? ⟨g,o+i*5+1,none⟩=some (.int .i64 n1)∧w2.cell? ⟨g,o+i*5+2,none⟩=some (.string n2)∧w2.cell? ⟨g,o+i*5+3,none⟩=some (.int .i64 n3)∧w2.cell? ⟨g,o+i*5+4,none⟩=some (.slice A4 m c4)):=by
 obtain⟨r,hr⟩:∃r,X[i]? =some r:=⟨_,List.getElem?_eq_getElem hi⟩
 obtain⟨g,o,c',v4,hsl,hSg,hv4,h41,hld⟩:=rec_cells hv hr
 cases hsl
 obtain⟨q0,q1,q2,q3,q4⟩:=hld w2 rfl
 obtain⟨A4,c4,e4⟩:=ro_one hv4
 rw[List.length_map] at e4
 subst e4
 refine⟨g,o,A4,r.list.length,c4,rfl,hSg, ?_,(h.hd i (Nat.le_refl _) hi g o rfl).trans q4,fun k hk=> ?_,⟨_,_,_,_,q0,q1,q2,q3,q4⟩⟩
 · cases hv4 with
   |ro _ sz hz cs u hrd hl _ _=>
    obtain⟨A',c',h1,h2,h3⟩:=hrd.form
    simp only[Value.slice.injEq] at h1
    unfold maxLen at h3
    omega
 · have hkl:k<(r.list.map eI).length:=by rw[List.length_map];exact hk
   obtain⟨g4,o4,c5,he,hrp⟩:=ro_elem hv4 hkl
   simp only[Value.slice.injEq] at he
   obtain⟨rfl, -, -⟩:=he
   obtain⟨n,hn⟩:∃n,r.list[k]? =some n:=⟨_,List.getElem?_eq_getElem hk⟩
   have:Aw.at_ (r.list.map eI) k=eI n:=at_some hn
   rw[this] at hrp
   cases hrp with
   |rp _ _ _ vs hS hcell hl h1 hvv=>
    match vs,hl with
    |[v],_=>
     have:=(hvv 0 _ v rfl rfl).sc_inv
     subst this
     have:=hcell 0 _ rfl
     exact⟨g4,o4,n,rfl,hS,by simpa [eI] using this⟩
end Go.Proofs.YtpjodoipceddpaaGreatDoor.Aw
namespace Go.Proofs.YtpjodoipceddpaaGreatDoor.Aw
open Go.RowKit Go.Lib Rc
set_option maxHeartbeats 8000000
set_option maxRecDepth 100000
theorem cRs_cRl (l:List RecM):cRs l=cRl l:=rfl
theorem lineP_len {t:T} {r:RecM} (h:lineP nmB t=some r):r.list.length≤t.length+1:=by
 have hpc:=pieces_len2 t
 unfold lineP at h
 split at h
 · cases h
 · rename_i w0 ws hp
   rw[hp,List.length_cons] at hpc
   split at h
   · cases h
   · rename_i o ho
     split at h
     · cases h
     · rename_i r' hr
       split at h
       · cases h
         have h1:=rec_len (o:=o) (l:=ws) (b:=t.length+1) (by omega) (by omega) (fun x hx=>by have:=hpc.2 x (List.mem_cons_of_mem _ hx);omega)
         rw[recV_eq] at hr
         split at hr
         · cases hr
           exact h1.1
         · cases hr
       · cases h
theorem readAll_len {M:Nat}:∀(f:Nat) (s:T) (p:Nat) (acc:List RecM),s.length≤M→(∀r∈acc,r.list.length≤M+1)→(readAll (lineP nmB) f s p acc).1.length≤acc.length+s.length∧∀r∈(readAll (lineP nmB) f s p acc).1,r.list.length≤M+1:=by
 intro f
 induction f with
 |zero=>intro s p acc _ _;simp[readAll]
 |succ f ih=>
  intro s p acc hs hacc
  rw[readAll]
  split
  · exact⟨by simp,hacc⟩
  · split
    · simp
    · rename_i t r h
      have hc:=cutL_len _ _ h
      simp only at hc
      split
      · simp
      · rename_i x hx
        have hxl:=lineP_len hx
        have:=ih r (p+t.length+1) (acc++[x]) (by omega) (fun y hy=>by
         rcases List.mem_append.1 hy with hy|hy
         · exact hacc y hy
         · rw[List.mem_singleton] at hy
           rw[hy]
           omega)
        rw[List.length_append,List.length_singleton] at this
        exact⟨by omega,this.2⟩
theorem get_sml {s:T} (hs:s.length≤900∨1048576<s.length):(getM (lineP nmB) s).1.length≤900∧Sml (getM (lineP nmB) s).1:=by
 unfold getM
 split
 · exact⟨by simp,by simp,by simp⟩
 · have:=readAll_len (M:=900) (s.length+1) s 0 [] (by omega) (by simp)
   rw[List.length_nil] at this
   exact⟨by omega,by omega,fun r hr=>by have:=this.2 r hr;omega⟩
theorem works_calls (w:World) (hst:TrS w):Calls Tryz.prog 5 #[] w fun e w'=>e=.returned (.bool true)∧Fr (fun _=>False) w w':=
 con_calls (works31_con w hst) (S:=fun _=>False) (fun _ h=>h.elim) (vs:=[]) rfl (fun i x v h=>by simp at h)
theorem vc1 {S:Nat→Prop} {w:World} {x:AV} {u:Value} (h:VC S w x u):∀(i:Nat) y v,[x][i]? =some y→[u][i]? =some v→VC S w y v:=fun i y v hy hv=>by
 match i with
 |0=>cases hy;cases hv;exact h
 |i+1=>simp at hy
theorem vc2 {S:Nat→Prop} {w:World} {x x':AV} {u u':Value} (h:VC S w x u) (h':VC S w x' u'):∀(i:Nat) y v,[x,x'][i]? =some y→[u,u'][i]? =some v→VC S w y v:=fun i y v hy hv=>by
 match i with
 |0=>cases hy;cases hv;exact h
 |1=>cases hy;cases hv;exact h'
 |i+2=>simp at hy
theorem traceGets_any (s:ByteArray) (w:World) (hst:TrS w):Calls Tryz.prog 3 #[.string s] w fun e w'=>e=.returned (.bool true)∧Fr (fun _=>False) w w':=by
 have HWK:=hide (fun(W:World) (f:Fr (fun _=>False) w W)=>works_calls W (hst.fr f))
 by_cases hmid:800<s.size∧s.size≤1048576
 · have i1:(800:Int)<s.size:=by omega
   have i2:(s.size:Int)≤1048576:=by omega
   clear hmid hst
   go_enter Tryz.func3,Tryz.ntmps3
   go_wp2_with (go_at_call 5;refine(HWK.out _ (Fr.refl _ _)).mono ?_;rintro e w5 ⟨rfl,f5⟩)
   go_returns
   exact⟨rfl,f5⟩
 have hsz:s.size≤900∨1048576<s.size:=by omega
 obtain⟨hX9,hX⟩:=get_sml (s:=s.data.toList) hsz
 have HRG:=fun(W:World)=>con_get (get31_con s (by omega) W)
 have HPG:=fun(W:World) (f:Fr (fun _=>False) w W)=>con_get (get_con s hsz W (hst.fr f))
 rw[←getM_eq nmOk,cRs_cRl] at HRG
 obtain⟨G,hG⟩:∃G,G=getM (lineP nmB) s.data.toList:=⟨_,rfl⟩
 rw[←hG] at HRG HPG hX9 hX
 obtain⟨X,p,er⟩:=G
 simp only at HRG HPG hX9 hX
 have HREF:=hide (fun(W:World) (u:Value) (S:Nat→Prop) (hS:∀k,S k→k<W.heap.size) (hv:VC S W (.ro (cRl X)) u)=>con_ro (ref31_con X hX W) hS (vs:=[u]) rfl (vc1 hv))
 have HSAME:=hide (fun(W:World) (u u':Value) (S:Nat→Prop) (hS:∀k,S k→k<W.heap.size) (hv:VC S W (.ro (cRl X)) u) (hv':VC S W (.ro (cRl X)) u')=>con_calls (same31_con X hX W) hS (vs:=[u,u']) rfl (vc2 hv hv'))
 have HRG:=hide HRG
 have HPG:=hide HPG
 have hb:(¬(800:Int)<s.size)∨((800:Int)<s.size∧¬(s.size:Int)≤1048576):=by omega
 clear hmid hst hsz hG
 rcases hb with i1|⟨i1,i2⟩
 all_goals
  go_enter Tryz.func3,Tryz.ntmps3
  go_wp2_with (go_at_call 6;refine(HRG.out _).mono ?_;rintro e w1 ⟨u1,S1,rfl,hS1,hu1,f1⟩)
  have HU1:=hide hu1
  have HS1:=hide hS1
  have F1:=hide f1
  clear hu1 hS1 f1
  go_loopw [6] (fun iv wr=>∃t:Nat,iv=.int .i64 t∧t≤2∧Hid (Fr (fun _=>False) w1 wr)) (fun iv _=>2 - (Go.RowKit.intOf iv).toNat)
  case atStart=>exact⟨0,rfl,by omega,hide (Fr.refl _ _)⟩
  case round=>
   obtain⟨t,rfl,ht,hJ⟩:=hrel
   by_cases ht2:t<2
   · have htt:(t:Int)<2:=by omega
     go_wp2_with (first
      |(go_at_call 7;refine(HPG.out _ (F1.out.trans hJ.out)).mono ?_;rintro e w2 ⟨u2,S2,rfl,hS2,hu2,f2⟩
        have HU2:=hide hu2
        have HS2:=hide hS2
        have F2:=hide f2
        clear hu2 hS2 f2)
      |(go_at_call 9;refine(HREF.out _ _ _ (fun k hk=>(HS2.out k hk).2.1) HU2.out).mono ?_;rintro e w3 ⟨u3,S3,rfl,hS3,hu3,f3⟩)
      |(go_at_call 8;refine(HSAME.out _ _ _ (fun k=>k<w3.heap.size) (fun k hk=>hk) (hu3.keep hS3 (fun k hk=>rfl)) ((HU1.out.keep (S':=fun k=>k<w1.heap.size) (fun k hk=>(HS1.out k hk).2.1) (fun k hk=>rfl)).keep (fun k hk=>Nat.lt_of_lt_of_le hk (hJ.out.trans (F2.out.trans f3)).size) (fun k hk=>(hJ.out.trans (F2.out.trans f3)).block k hk (fun h=>h)))).mono ?_;rintro e w4 ⟨rfl,f4⟩))
     obtain⟨A,c,hA⟩:=ro_one HU2.out
     rw[cRl_len] at hA
     subst hA
     have hv4:VC S2 w4 (.ro (cRl X)) (.slice A X.length c):=HU2.out.keep (fun k h=>h) (fun k hk=>(f3.trans f4).block k (HS2.out k hk).2.1 (fun h=>h))
     have hun:∀k,S2 k→Unfz w4 k:=fun k hk=>(HS2.out k hk).2.2.keep ((f3.trans f4).block k (HS2.out k hk).2.1 (fun h=>h))
     have hold:∀k,S2 k→wr.heap.size≤k:=fun k hk=>(HS2.out k hk).1
     have HSP0:=hide (Spl.start (A:=A) (n:=X.length) hun)
     have HAT:=hide (fun(W:World) (i:Nat) (h:Spl S2 w4 W A X.length i) (hi:i<X.length)=>h.at_ hv4 hi)
     have F4:=hide (hJ.out.trans (F2.out.trans (f3.trans f4)))
     have HOLD:=hide hold
     have hbt:wr.heap.size=wr.heap.size:=rfl
     clear hv4 hun hold HU2 HS2 HSAME HREF HU1 HS1 hu3 hS3 f3 f4 F2 HPG HRG
     obtain⟨n,hn⟩:∃n,X.length=n:=⟨_,rfl⟩
     rw[hn] at HSP0 HAT hX9⊢
     clear hn hX
     go_loopw [10] (fun iv wi=>∃i:Nat,iv=.int .i64 i∧i≤n∧Hid (Spl S2 w4 wi A n i)) (fun iv _=>n - (Go.RowKit.intOf iv).toNat)
     case atStart=>exact⟨0,rfl,Nat.zero_le _,HSP0⟩
     case round=>
      obtain⟨i,rfl,hin,hK⟩:=hrel
      by_cases hi:i<n
      · have hii:(i:Int)<n:=by omega
        obtain⟨g,o,A4,m,c4,rfl,hSg,hm,hhd,hels,n0,n1,n2,n3,r0,r1,r2,r3,r4⟩:=HAT.out _ _ hK.out hi
        have HELS:=hide hels
        clear hels
        go_wp2_with fail
        go_loopw [11] (fun kv wk=>∃k:Nat,kv=.int .i64 k∧k≤m∧Hid (Spl S2 w4 wk (some ⟨g,o,none⟩) n i)) (fun kv _=>m - (Go.RowKit.intOf kv).toNat)
        case atStart=>exact⟨0,rfl,Nat.zero_le _,hK⟩
        case round=>
         obtain⟨k,rfl,hkm,hL⟩:=hrel
         have hhd2:=(hL.out.hd i (Nat.le_refl _) hi g o rfl).trans r4
         by_cases hk:k<m
         · have hkk:(k:Int)<m:=by omega
           obtain⟨g4,o4,x,rfl,hS4,hx⟩:=HELS.out k hk
           obtain⟨x',hx1,hx2⟩:=hL.out.st g4 hS4 _ _ hx
           obtain⟨m',rfl⟩:=hx2 .i64 x rfl
           have hfz:=hL.out.uz g4 hS4 _ _ hx
           have HNX:=hide (hL.out.set hS4 (Nat.le_refl i) hx (u:=.int .i64 (-9)) (fun kd q h=>by cases h;exact⟨_,rfl⟩) (fun j hj hjn g' o' hA he=>by
            cases hA
            obtain⟨e1,e2⟩:=he
            subst e1
            obtain⟨g5,o5,A5,m5,c5,hA5, -, -, -, -, -, -, -, -, -, -, -, -,r45⟩:=HAT.out w4 j (HSP0.out.up (Nat.zero_le _)) hjn
            cases hA5
            rw[e2,r45] at hx
            cases hx))
           clear hx hx2
           go_wp2_with fail
           go_roundw
           case rel=>exact⟨k+1,by go_num,by omega,HNX⟩
           case measure=>simp[Go.RowKit.intOf];omega
         · obtain rfl:k=m:=by omega
           obtain⟨y0,z0, -⟩:=hL.out.st g hSg _ _ r0
           obtain⟨y1,z1, -⟩:=hL.out.st g hSg _ _ r1
           obtain⟨y2,z2, -⟩:=hL.out.st g hSg _ _ r2
           obtain⟨y3,z3, -⟩:=hL.out.st g hSg _ _ r3
           have hfz0:=hL.out.uz g hSg _ _ r0
           have hfz1:=hL.out.uz g hSg _ _ r1
           have hfz2:=hL.out.uz g hSg _ _ r2
           have hfz3:=hL.out.uz g hSg _ _ r3
           have hfz4:=hL.out.uz g hSg _ _ r4
           have hne:∀x,x≤o+i*5+4→∀j,i+1≤j→j<n→∀g' o',some (⟨g,o,none⟩:Addr)=some ⟨g',o',none⟩→¬(g=g'∧x=o'+j*5+4):=fun x hx j hj hjn g' o' hA he=>by
            cases hA
            omega
           have HN:=hide (((((hL.out.set hSg (Nat.le_succ i) r0 (u:=.int .u8 0) (fun kd q h=>by cases h;exact⟨_,rfl⟩) (hne _ (by omega))).set hSg (Nat.le_refl _) r1 (u:=.int .i64 0) (fun kd q h=>by cases h;exact⟨_,rfl⟩) (hne _ (by omega))).set hSg (Nat.le_refl _) r2 (u:=.string ⟨#[]⟩) (fun kd q h=>by cases h) (hne _ (by omega))).set hSg (Nat.le_refl _) r3 (u:=.int .i64 0) (fun kd q h=>by cases h;exact⟨_,rfl⟩) (hne _ (by omega))).set hSg (Nat.le_refl _) r4 (u:=.slice none 0 0) (fun kd q h=>by cases h) (hne _ (by omega)))
           clear r0 r1 r2 r3
           go_wp2_with fail
           go_roundw
           case rel=>exact⟨i+1,by go_num,by omega,HN⟩
           case measure=>simp[Go.RowKit.intOf];omega
      · obtain rfl:i=n:=by omega
        go_wp2_with fail
        go_roundw
        case rel=>exact⟨t+1,by go_num,by omega,hide (F4.out.then_ hK.out.fr (fun k k1 k2=>by have:=HOLD.out k k2;have:=hJ.out.size;omega))⟩
        case measure=>simp[Go.RowKit.intOf];omega
   · obtain rfl:t=2:=by omega
     go_wp2_with (go_at_call 5;refine(HWK.out _ (F1.out.trans hJ.out)).mono ?_;rintro e w5 ⟨rfl,f5⟩)
     go_returns
     exact⟨rfl,(F1.out.trans hJ.out).trans f5⟩
end Go.Proofs.YtpjodoipceddpaaGreatDoor.Aw
