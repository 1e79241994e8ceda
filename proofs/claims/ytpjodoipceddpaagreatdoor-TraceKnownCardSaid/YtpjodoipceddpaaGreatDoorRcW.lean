/- Traces: the closed law TraceKnown, walked. -/
import Derived.Test.YtpjodoipceddpaaGreatDoorRcV
namespace Go.Proofs.YtpjodoipceddpaaGreatDoor.Aw
open Go.RowKit Go.Lib Rc
set_option maxHeartbeats 8000000
set_option maxRecDepth 100000
def rowO (l:List Int):Obj:=.cells (l.map fun x=>Value.int .i64 x).toArray 3
def rowsW :World→List (List Int)→World
 |w,[]=>w
 |w,l::L=>rowsW (w.alloc (rowO l)) L
def hdrs :Nat→List (List Int)→List Value
 |_,[]=>[]
 |n,l::L=>.slice (some ⟨n,0,none⟩) l.length l.length::hdrs (n+1) L
theorem rows_fr :∀(L:List (List Int)) (w:World),Fr (fun _=>False) w (rowsW w L)
 |[],w=>Fr.refl _ _
 |l::L,w=>((Fr.refl _ _).alloc _).trans (rows_fr L _)
theorem rows_size :∀(L:List (List Int)) (w:World),(rowsW w L).heap.size=w.heap.size+L.length
 |[],w=>rfl
 |l::L,w=>by rw[rowsW,rows_size L];simp;omega
theorem rows_get :∀(L:List (List Int)) (w:World) (i:Nat) (l:List Int),L[i]? =some l→(rowsW w L).heap[w.heap.size+i]? =some (rowO l)∧(hdrs w.heap.size L)[i]? =some (.slice (some ⟨w.heap.size+i,0,none⟩) l.length l.length)
 |[],w,i,l,h=>by simp at h
 |x::L,w,0,l,h=>by
  obtain rfl:x=l:=Option.some.inj h
  refine⟨?_,rfl⟩
  rw[rowsW,Nat.add_zero,(rows_fr L (w.alloc (rowO x))).block _ (by simp) (fun h=>h)]
  exact heap_alloc_new w _
 |x::L,w,i+1,l,h=>by
  obtain⟨h1,h2⟩:=rows_get L (w.alloc (rowO x)) i l h
  have e:(w.alloc (rowO x)).heap.size=w.heap.size+1:=by simp
  rw[e] at h1 h2
  refine⟨?_, ?_⟩
  · rw[rowsW,show w.heap.size+(i+1)=w.heap.size+1+i by omega]
    exact h1
  · rw[show w.heap.size+(i+1)=w.heap.size+1+i by omega]
    exact h2
def L14 :List (List Int):=[[0],[2],[1],[3],[-1],[-2],[4095],[4096],[511],[512],[1,2],[2,1],[1,1],[1, -1]]
def w15 (w:World):World:=(rowsW w L14).alloc (.cells (.slice none 0 0::hdrs w.heap.size L14).toArray 32)
def P15 (W:World) (g:Nat):Prop:=∀i,i<15→∃A n l,W.cell? ⟨g,i,none⟩=some (.slice A n n)∧LstAt W (.slice A n n) l∧l.length≤2
theorem made15 (w:World):P15 (w15 w) (w.heap.size+14):=fun i hi=>by
 have hz:(rowsW w L14).heap.size=w.heap.size+14:=rows_size L14 w
 have hb:=heap_alloc_new (rowsW w L14) (.cells (.slice none 0 0::hdrs w.heap.size L14).toArray 32)
 rw[hz] at hb
 have hfr:Fr (fun _=>False) (rowsW w L14) (w15 w):=(Fr.refl _ _).alloc _
 match i with
 |0=>exact⟨none,0,[],cells_get hb 0 _ rfl,LstAt.nil _,by simp⟩
 |i+1=>
  have hl:i<L14.length:=by have:L14.length=14:=rfl;omega
  obtain⟨h1,h2⟩:=rows_get L14 w i L14[i] (List.getElem?_eq_getElem hl)
  have ha:(L14.all fun l=>decide (l.length≤2))=true:=by decide
  have h3:L14[i].length≤2:=of_decide_eq_true (List.all_eq_true.1 ha _ (List.getElem_mem hl))
  refine⟨_,_,L14[i],cells_get hb (i+1) _ (by rw[List.getElem?_cons_succ];exact h2), ?_,h3⟩
  rw[←hfr.block _ (lt_of_heap h1) (fun h=>h)] at h1
  exact LstAt.row h1 rfl (Nat.le_trans h3 (by decide)) (fun j x hx=>by simp[hx])
theorem hal2 (w:World) (o o2:Obj):((w.alloc o).alloc o2).heap[w.heap.size+1]? =some o2:=by
 have h:=heap_alloc_new (w.alloc o) o2
 have e:(w.alloc o).heap.size=w.heap.size+1:=by simp
 rwa [e] at h
theorem hal1 (w:World) (o o2:Obj):((w.alloc o).alloc o2).heap[w.heap.size]? =some o:=by
 rw[((Fr.refl (fun _=>False) (w.alloc o)).alloc o2).block _ (by simp) (fun h=>h)]
 exact heap_alloc_new w o
theorem wrap64_in (n:Int): -9223372036854775808≤wrap64 n∧wrap64 n≤9223372036854775807:=by unfold wrap64;omega
def atL :List Int:=[-1,0,1,999,1000,4095,4096]
def atV :Array Value:=(atL.map fun x=>Value.int .i64 x).toArray
theorem atV_get (j:Nat) (h:j<7):∃x:Int,atV[j]? =some (.int .i64 x)∧ -1≤x∧x≤4096:=by
 have hl:atL.length=7:=rfl
 have ha:(atL.all fun x=>decide (-1≤x) && decide (x≤4096))=true:=by decide
 refine⟨atL[j]'(by omega), ?_, ?_⟩
 · unfold atV
   simp only[List.getElem?_toArray,List.getElem?_map,Option.map_eq_some_iff]
   exact⟨_,List.getElem?_eq_getElem (by omega),rfl⟩
 · have:=List.all_eq_true.1 ha _ (List.getElem_mem (l:=atL) (n:=j) (by omega))
   simpa using this
def nmL :List T:=[[],[103,111],[105,102]]
def nmV :Array Value:=(nmL.map fun x=>Value.string (bt x)).toArray
theorem nmV_get (j:Nat) (h:j<3):∃x:T,nmV[j]? =some (.string (bt x))∧x.length≤2:=by
 have hl:nmL.length=3:=rfl
 have ha:(nmL.all fun x=>decide (x.length≤2))=true:=by decide
 refine⟨nmL[j]'(by omega), ?_, ?_⟩
 · unfold nmV
   simp only[List.getElem?_toArray,List.getElem?_map,Option.map_eq_some_iff]
   exact⟨_,List.getElem?_eq_getElem (by omega),rfl⟩
 · exact of_decide_eq_true (List.all_eq_true.1 ha _ (List.getElem_mem _))
def byL :List Int:=[32,10,48,49,45,101,120]
def byV :Array Value:=(byL.map fun n=>Value.int .u8 n).toArray
theorem byV_get (j:Nat) (h:j<7):∃n:Int,byV[j]? =some (.int .u8 n)∧(0≤n∧n<256):=by
 have hl:byL.length=7:=rfl
 have ha:(byL.all fun x=>decide (0≤x) && decide (x<256))=true:=by decide
 refine⟨byL[j]'(by omega), ?_, ?_⟩
 · unfold byV
   simp only[List.getElem?_toArray,List.getElem?_map,Option.map_eq_some_iff]
   exact⟨_,List.getElem?_eq_getElem (by omega),rfl⟩
 · have:=List.all_eq_true.1 ha _ (List.getElem_mem (l:=byL) (n:=j) (by omega))
   simpa using this
theorem conv_new (W:World) (S:ByteArray) (i:Nat) (hi:i<S.size) (c:Int) (hc:0≤c∧c<256):∃Wb cp,(convert 9 40 (.string S)).run Tryz.prog W=.ok (.slice (some ⟨W.heap.size,0,none⟩) S.size cp) Wb∧Fr (fun _=>False) W Wb∧Fr (fun _=>False) W (Wb.setCell ⟨W.heap.size,i,none⟩ (.int .u8 c))∧
 (∃v,Wb.cell? ⟨W.heap.size,i,none⟩=some v)∧Wb.frozen? ⟨W.heap.size,i,none⟩=false∧
 ∃R,(convert 40 9 (.slice (some ⟨W.heap.size,0,none⟩) S.size cp)).run Tryz.prog (Wb.setCell ⟨W.heap.size,i,none⟩ (.int .u8 c)).drew=.ok (.string R) (Wb.setCell ⟨W.heap.size,i,none⟩ (.int .u8 c)).drew:=by
 have hF:Fr (fun _=>False) W (Lib.bytesWorld W 5 S):=⟨rfl,rfl,rfl,by rw[Lib.bytesWorld_size];omega,fun k hk _=>Lib.bytesWorld_at_old W 5 S k hk⟩
 have hl:S.data.toList.length=S.size:=rfl
 refine⟨_,_,Lib.run_convert_string_bytes W 9 40 5 S Tryz.underlying9 Tryz.underlying40 Tryz.underlying5,hF,hF.setCell (.inr (Nat.le_refl _)) _,⟨_,Lib.bytesWorld_cell W 5 S i hi⟩, ?_, ?_⟩
 · have hb:=Lib.bytesWorld_at_new W 5 S
   have hz:i<(Lib.bytesCells W 5 S).size:=by
    unfold Lib.bytesCells
    rw[Array.size_append,Array.size_map]
    exact Nat.lt_of_lt_of_le hi (Nat.le_add_right _ _)
   simp[World.frozen?,hb]
   omega
 · have:=run_convert_bytes_back (P:=Tryz.prog) ((Lib.bytesWorld W 5 S).setCell ⟨W.heap.size,i,none⟩ (.int .u8 c)).drew 40 9 5 ⟨W.heap.size,0,none⟩ (grownCap W S.size 0 5) (S.data.toList.set i (UInt8.ofNat c.toNat)) Tryz.underlying40 Tryz.underlying5 Tryz.underlying9 (fun j hj=>by
    have hj2:j<S.size:=by rw[List.length_set,hl] at hj;exact hj
    rw[Addr.add_lit,Nat.zero_add]
    show ((Lib.bytesWorld W 5 S).setCell ⟨W.heap.size,i,none⟩ (.int .u8 c)).cell? ⟨W.heap.size,j,none⟩=_
    by_cases hij:i=j
    · subst hij
      have hu:(((UInt8.ofNat c.toNat).toNat:Nat):Int)=c:=by simp;omega
      rw[World.cell?_setCell_same (h:=Lib.bytesWorld_cell W 5 S i hi),List.getElem_set_self,hu]
    · rw[World.cell?_setCell_other (h:=fun e=>hij (by cases e;rfl)),Lib.bytesWorld_cell W 5 S j hj2,List.getElem_set_ne hij]
      rw[List.getD_eq_getElem?_getD,List.getElem?_eq_getElem hj2]
      rfl)
   rw[List.length_set,hl] at this
   exact⟨_,this⟩
theorem int_info :(Tryz.prog.info? 3).map (fun i=>(i.zero,i.size,i.bytes))=some (some (.int .i64 0),1,8):=by kernel_rfl
theorem byte_info :(Tryz.prog.info? 5).map (fun i=>(i.zero,i.size,i.bytes))=some (some (.int .u8 0),1,1):=by kernel_rfl
theorem mk_many (W:World):∃MZ:Array Value,(Instr.makeSlice 32 (.int .i64 513) (.int .i64 513)).run Tryz.prog W=.ok (.slice (some ⟨W.heap.size,0,none⟩) 513 513) (W.alloc (.cells MZ 3))∧∀j,j<513→MZ[j]? =some (.int .i64 0):=by
 obtain⟨i,hi,hzz⟩:=Option.map_eq_some_iff.1 int_info
 simp only[Prod.mk.injEq] at hzz
 obtain⟨h1,h2,h3⟩:=hzz
 have:=run_make (P:=Tryz.prog) W 32 3 i (.int .i64 0) Tryz.underlying32 hi h1 .i64 .i64 513 513 (by decide) (by decide) (by rw[h3];decide) (by decide)
 rw[h2] at this
 refine⟨_,this,fun j hj=> ?_⟩
 show (madeCells #[.int .i64 0] 513)[j]? =_
 rw[←Array.getElem?_toList,toList_madeCells_one,List.getElem?_replicate,if_pos hj]
theorem mk_bytes (W:World):∃(Z:ByteArray) (MZ:Array Value),(Instr.makeSlice 40 (.int .i64 1048577) (.int .i64 1048577)).run Tryz.prog W=.ok (.slice (some ⟨W.heap.size,0,none⟩) 1048577 1048577) (W.alloc (.cells MZ 5))∧
 (convert 40 9 (.slice (some ⟨W.heap.size,0,none⟩) 1048577 1048577)).run Tryz.prog (W.alloc (.cells MZ 5))=.ok (.string Z) (W.alloc (.cells MZ 5)):=by
 obtain⟨i,hi,hzz⟩:=Option.map_eq_some_iff.1 byte_info
 simp only[Prod.mk.injEq] at hzz
 obtain⟨h1,h2,h3⟩:=hzz
 have h4:=run_make (P:=Tryz.prog) W 40 5 i (.int .u8 0) Tryz.underlying40 hi h1 .i64 .i64 1048577 1048577 (by decide) (by decide) (by rw[h3];decide) (by decide)
 rw[h2] at h4
 have hr:∀j,j<1048577→(madeCells (Value.int .u8 0).cells (Int.toNat 1048577*1))[j]? =some (.int .u8 0):=fun j hj=>by
  show (madeCells #[.int .u8 0] (Int.toNat 1048577*1))[j]? =_
  rw[←Array.getElem?_toList,toList_madeCells_one,List.getElem?_replicate,if_pos (by omega)]
 generalize madeCells (Value.int .u8 0).cells (Int.toNat 1048577*1)=MZ at h4 hr
 have h5:=run_convert_bytes_back (P:=Tryz.prog) (W.alloc (.cells MZ 5)) 40 9 5 ⟨W.heap.size,0,none⟩ 1048577 (List.replicate 1048577 0) Tryz.underlying40 Tryz.underlying5 Tryz.underlying9 (fun j hj=>by
  rw[List.length_replicate] at hj
  rw[Addr.add_lit,Nat.zero_add,cell_of_row _ _ _ _ _ _ (heap_alloc_new W _),hr j hj,List.getElem_replicate]
  rfl)
 rw[List.length_replicate] at h5
 exact⟨_,MZ,h4,h5⟩
theorem many_get {MZ:Array Value} (h:∀j,j<513→MZ[j]? =some (.int .i64 0)) (j:Nat) (x:Int) (hx:(List.replicate 513 (0:Int))[j]? =some x):MZ[j]? =some (.int .i64 x):=by
 rw[List.getElem?_replicate] at hx
 split at hx
 · cases hx
   exact h j (by assumption)
 · cases hx
theorem many_get1 {MZ:Array Value} (h:∀j,j<513→MZ[j]? =some (.int .i64 0)) (j:Nat) (x:Int) (hx:(List.replicate 512 (0:Int))[j]? =some x):MZ[1+j]? =some (.int .i64 x):=by
 rw[List.getElem?_replicate] at hx
 split at hx
 · cases hx
   exact h (1+j) (by omega)
 · cases hx
theorem many_few :Few [(⟨12,0,[],0,List.replicate 513 0⟩:RecM)]:=⟨by simp,fun x hx=>by rw[List.mem_singleton] at hx;rw[hx];simp,fun x hx=>by rw[List.mem_singleton] at hx;rw[hx];show ((List.replicate 513 (0:Int)).length≤40∨512<(List.replicate 513 (0:Int)).length)∧(List.replicate 513 (0:Int)).length≤600;rw[List.length_replicate];omega⟩
theorem many_shr :Shr (⟨12,0,[],0,List.replicate 513 0⟩:RecM):=⟨by show (List.replicate 513 (0:Int)).length≤_;rw[List.length_replicate];omega,by simp,⟨by decide,by decide⟩⟩
theorem many_may :mayB nmB ⟨12,0,[],0,List.replicate 512 0⟩=true:=by kernel_rfl
theorem traceKnown_any (w:World) (hst:TrS w):Calls Tryz.prog 4 #[] w fun e w'=>e=.returned (.bool true)∧Fr (fun _=>False) w w':=by
 have g0:GG w w:=⟨hst,Fr.refl _ _⟩
 clear hst
 go_enter Tryz.func4,Tryz.ntmps4
 go_wp2_with fail
 obtain⟨W0,hW0⟩:∃W,W=w15 w:=⟨_,rfl⟩
 obtain⟨G,hG⟩:∃G,w.heap.size+1+1+1+1+1+1+1+1+1+1+1+1+1+1=G:=⟨_,rfl⟩
 have hP:P15 W0 G:=by rw[hW0,←hG];exact made15 w
 have F0:Hid (Fr (fun _=>False) w W0):=hide (by rw[hW0];exact(rows_fr L14 w).trans ((Fr.refl _ _).alloc _))
 have g0:GG W0 W0:=⟨g0.1.fr F0.out,Fr.refl _ _⟩
 refine Eq.mp (congrArg (fun W=>Code.wp Tryz.prog _ _ _ W) hW0) ?_
 rw[hG]
 clear hW0 hG
 have HP:=hide hP
 clear hP
 go_loopw [2] (fun o wr=>∃n:Nat,n≤16∧o=.int .u8 n∧GG W0 wr) (fun o _=>16 - (Go.RowKit.intOf o).toNat)
 case atStart=>exact⟨0,by omega,rfl,g0⟩
 case round=>
  clear g0
  obtain⟨n,hn,rfl,g1⟩:=hrel
  by_cases hnl:n<16
  · have hni:(n:Int)<16:=by omega
    go_wp2_with fail
    generalize wr=W1 at*
    go_loopw [3] (fun i wr=>∃k:Nat,k≤15∧i=.int .i64 k∧GG W0 wr) (fun i _=>15 - (Go.RowKit.intOf i).toNat)
    case atStart=>exact⟨0,by omega,rfl,g1⟩
    case round=>
     clear g1
     obtain⟨k,hk,rfl,g2⟩:=hrel
     by_cases hkl:k<15
     · have hki:(k:Int)<15:=by omega
       go_wp2_with fail
       generalize wr=W2 at*
       obtain⟨W3,hW3⟩:∃W,W=W2.alloc (.cells atV 3):=⟨_,rfl⟩
       have F3:Hid (Fr (fun _=>False) W0 W3):=hide (by rw[hW3];exact g2.2.alloc _)
       have g3:GG W3 W3:=⟨by rw[hW3];exact(g2.alloc _).1,Fr.refl _ _⟩
       have HA:Hid (W3.heap[W2.heap.size]? =some (.cells atV 3 (0,0))):=hide (by rw[hW3];exact heap_alloc_new W2 _)
       refine Eq.mp (congrArg (fun W=>Code.wp Tryz.prog _ _ _ W) hW3) ?_
       clear hW3 g2
       generalize W2.heap.size=ga at*
       go_loopw [42] (fun j wr=>∃m:Nat,m≤7∧j=.int .i64 m∧GG W3 wr) (fun j _=>7 - (Go.RowKit.intOf j).toNat)
       case atStart=>exact⟨0,by omega,rfl,g3⟩
       case round=>
        clear g3
        obtain⟨m,hm,rfl,g4⟩:=hrel
        by_cases hml:m<7
        · have hmi:(m:Int)<7:=by omega
          obtain⟨x,hx,hx1,hx2⟩:=atV_get m hml
          have hcell:wr.cell? ⟨ga,m,none⟩=some (.int .i64 x):=cell_fr (by rw[cell_of_row _ _ _ _ _ _ HA.out,hx]) g4.2
          clear hx
          go_wp2_with fail
          generalize wr=W4 at*
          obtain⟨W5,hW5⟩:∃W,W=W4.alloc (.cells nmV 9):=⟨_,rfl⟩
          have F5:Hid (Fr (fun _=>False) W3 W5):=hide (by rw[hW5];exact g4.2.alloc _)
          have g5:GG W5 W5:=⟨by rw[hW5];exact(g4.alloc _).1,Fr.refl _ _⟩
          have HB:Hid (W5.heap[W4.heap.size]? =some (.cells nmV 9 (0,0))):=hide (by rw[hW5];exact heap_alloc_new W4 _)
          refine Eq.mp (congrArg (fun W=>Code.wp Tryz.prog _ _ _ W) hW5) ?_
          clear hW5 g4 hcell
          generalize W4.heap.size=gb at*
          go_loopw [48] (fun j wr=>∃q:Nat,q≤3∧j=.int .i64 q∧GG W5 wr) (fun j _=>3 - (Go.RowKit.intOf j).toNat)
          case atStart=>exact⟨0,by omega,rfl,g5⟩
          case round=>
           clear g5
           obtain⟨q,hq,rfl,g6⟩:=hrel
           by_cases hql:q<3
           · have hqi:(q:Int)<3:=by omega
             obtain⟨t,ht,ht2⟩:=nmV_get q hql
             have hcell:wr.cell? ⟨gb,q,none⟩=some (.string (bt t)):=cell_fr (by rw[cell_of_row _ _ _ _ _ _ HB.out,ht]) g6.2
             clear ht
             have fall:Fr (fun _=>False) W0 wr:=F3.out.trans (F5.out.trans g6.2)
             obtain⟨A,ln,l,hc0,hL0,hl2⟩:=HP.out k hkl
             have hcl:=cell_fr hc0 fall
             have HL:=hide (hL0.fr fall)
             clear hc0 hL0 fall
             obtain⟨ag,hag⟩:∃ag:Int,ag=wrap64 (wrap64 (((bt t).size:Int) / 2)*x.tmod 3):=⟨_,rfl⟩
             have hOk:Ok ⟨n,x,t,ag,l⟩:=⟨hl2,ht2,⟨by rw[hag];exact(wrap64_in _).1,by rw[hag];exact(wrap64_in _).2⟩⟩
             have g6s:=g6.1
             cases hx3:decide (x<2)
             · go_wp2_with (go_at_call 10;rw[←hag];refine(gPuts (r:=⟨n,x,t,ag,l⟩) (u:=.slice A ln ln) ⟨((g6.alloc _).alloc _).1,Fr.refl _ _⟩ (hal2 wr _ _) (HL.out.fr (((Fr.refl _ _).alloc _).alloc _)) hOk.few hOk.shr).mono ?_;rintro e w' ⟨rfl,g'⟩)
               go_roundw
               case rel=>exact⟨q+1,by omega,by go_num,((g6.alloc _).alloc _).next g'.2⟩
               case measure=>simp[Go.RowKit.intOf];omega
             · go_wp2_with (first
                |(go_at_call 10;rw[←hag];refine(gPuts (r:=⟨n,x,t,ag,l⟩) (u:=.slice A ln ln) ⟨((g6.alloc _).alloc _).1,Fr.refl _ _⟩ (hal2 wr _ _) (HL.out.fr (((Fr.refl _ _).alloc _).alloc _)) hOk.few hOk.shr).mono ?_;rintro e w' ⟨rfl,g'⟩
                  have hb8:=(g'.2.block _ (by simp;omega) (fun h=>h)).trans (hal1 wr (.cells (cellsR (⟨n,x,t,ag,l⟩,.slice A ln ln)).toArray 34) (.cells (cellsR (⟨n,x,t,ag,l⟩,.slice A ln ln)).toArray 34))
                  have d0:=cells_get hb8 0 _ rfl
                  have d1:=cells_get hb8 1 _ rfl
                  have d2:=cells_get hb8 2 _ rfl
                  have d3:=cells_get hb8 3 _ rfl
                  have d4:=cells_get hb8 4 _ rfl
                  clear hb8
                  have HL2:=hide (HL.out.fr ((((Fr.refl _ _).alloc _).alloc _).trans g'.2))
                  have HG2:=hide (((g6.alloc _).alloc _).next g'.2)
                  have gs2:=g'.1
                  clear g')
                |(go_at_call 11;rw[←hag];refine(gBack (r:=⟨n,x,t,ag,l⟩) (u:=.slice A ln ln) (HG2.out.alloc _) (heap_alloc_new w' _) (HL2.out.fr ((Fr.refl _ _).alloc _)) hOk).mono ?_;rintro e w2 ⟨rfl,g2⟩))
               go_roundw
               case rel=>exact⟨q+1,by omega,by go_num,g2⟩
               case measure=>simp[Go.RowKit.intOf];omega
           · have hqi:¬(q:Int)<3:=by omega
             go_wp2_with fail
             go_roundw
             case rel=>exact⟨m+1,by omega,by go_num,⟨g6.1,F5.out.trans g6.2⟩⟩
             case measure=>simp[Go.RowKit.intOf];omega
        · have hmi:¬(m:Int)<7:=by omega
          go_wp2_with fail
          go_roundw
          case rel=>exact⟨k+1,by omega,by go_num,⟨g4.1,F3.out.trans g4.2⟩⟩
          case measure=>simp[Go.RowKit.intOf];omega
     · have hki:¬(k:Int)<15:=by omega
       go_wp2_with fail
       go_roundw
       case rel=>exact⟨n+1,by omega,by go_num,g2⟩
       case measure=>simp[Go.RowKit.intOf];omega
  · have hni:¬(n:Int)<16:=by omega
    go_wp2_with fail
    have F6:Hid (Fr (fun _=>False) w wr):=hide (F0.out.trans g1.2)
    have g7:GG wr wr:=⟨g1.1,Fr.refl _ _⟩
    clear g1 HP F0
    generalize wr=W6 at*
    generalize hkS:(⟨#[101,120,105,116,32,51,10,108,111,111,107,32,56,32,50,10,101,118,101,110,116,32,99,97,108,108,32,103,111,32,45,53,10,101,118,101,110,116,32,100,111,110,101,32,49,10,102,105,114,101,32,50,32,53,10,114,101,115,116,32,49,32,45,49,10,100,101,102,101,114,10,102,97,117,108,116,32,50,55,48,10]⟩:ByteArray)=S
    have HSZ:Hid (S.size=81):=hide (by rw[←hkS];rfl)
    clear hkS
    go_loopw [10] (fun i wr=>∃k:Nat,k≤81∧i=.int .i64 k∧GG W6 wr) (fun i _=>81 - (Go.RowKit.intOf i).toNat)
    case atStart=>exact⟨0,by omega,rfl,g7⟩
    case round=>
     clear g7
     obtain⟨i,hi,rfl,g8⟩:=hrel
     by_cases hil:i<81
     · have hii:(i:Int)<S.size:=by rw[HSZ.out];omega
       go_wp2_with fail
       generalize wr=W7 at*
       obtain⟨W8,hW8⟩:∃W,W=W7.alloc (.cells byV 5):=⟨_,rfl⟩
       have F8:Hid (Fr (fun _=>False) W6 W8):=hide (by rw[hW8];exact g8.2.alloc _)
       have g9:GG W8 W8:=⟨by rw[hW8];exact(g8.alloc _).1,Fr.refl _ _⟩
       have HA:Hid (W8.heap[W7.heap.size]? =some (.cells byV 5 (0,0))):=hide (by rw[hW8];exact heap_alloc_new W7 _)
       refine Eq.mp (congrArg (fun W=>Code.wp Tryz.prog _ _ _ W) hW8) ?_
       clear hW8 g8
       generalize W7.heap.size=gc at*
       go_loopw [91] (fun j wr=>∃m:Nat,m≤7∧j=.int .i64 m∧GG W8 wr) (fun j _=>7 - (Go.RowKit.intOf j).toNat)
       case atStart=>exact⟨0,by omega,rfl,g9⟩
       case round=>
        clear g9
        obtain⟨m,hm,rfl,gA⟩:=hrel
        by_cases hml:m<7
        · have hmi:(m:Int)<7:=by omega
          obtain⟨c,hx,hc⟩:=byV_get m hml
          have hcell:wr.cell? ⟨gc,m,none⟩=some (.int .u8 c):=cell_fr (by rw[cell_of_row _ _ _ _ _ _ HA.out,hx]) gA.2
          clear hx
          have hsz:=HSZ.out
          obtain⟨Wb,cp,hcv,f1,f2,⟨v0,hv0⟩,hfz,R,hcb⟩:=conv_new wr S i (by omega) c hc
          have gB:GG W8 (Wb.setCell ⟨wr.heap.size,i,none⟩ (.int .u8 c)):=gA.next f2
          have hk0:(0:Int)≤i:=by omega
          have hk3:(i:Int)≤S.size:=by omega
          have hw1:IntKind.i64.wrap ((i:Int)+1)=(i:Int)+1:=IntWalk.i64_in _ (by omega)
          have hk1:(i:Int)+1≤S.size:=by omega
          have hk2:(0:Int)≤(i:Int)+1:=by omega
          have z1:(S.extract 0 i).size=i:=by rw[ByteArray.size_extract];omega
          have z2:(S.extract (i+1) S.size).size=80 - i:=by rw[ByteArray.size_extract];omega
          have z3:(S.extract 0 i++S.extract (i+1) S.size).size=80:=by rw[ByteArray.size_append,z1,z2];omega
          have z4:(S.extract 0 i).size≤81:=by omega
          have z5:(S.extract (i+1) S.size).size≤81:=by omega
          have gBs:=gB.drew
          clear hsz
          have hz80:(S.extract 0 i++S.extract (i+1) S.size).size≤600∧(S.extract 0 i++S.extract (i+1) S.size).size≠0:=by omega
          have HZ:=hide hz80
          have hsb:min i S.size+(S.size - (i+1))≤9223372036854775807:=by rw[HSZ.out];omega
          clear hz80 z1 z2 z3 hc
          by_cases h48:c=48
          · subst h48
            go_wp2_with fail
            refine wp_region_any (by kernel_rfl) ?_
            try (change wpAny _ _ _ _ _ _ _ (World.drew _))
            refine wpAny_take (i:=0) (v:=.slice (some ⟨wr.heap.size,0,none⟩) S.size cp) rfl (by kernel_rfl) (by kernel_rfl) (by kernel_rfl) (fun _ _ _ h=>h) (Or.inl ⟨by kernel_rfl,fun w=>by go_simp⟩) ?_
            refine wpAny_ready (rs:=[1]) (by kernel_rfl) (by simp) ?_
            refine AllReady.cons rfl (fun K hK=> ?_) AllReady.nil
            go_simp
            refine hK _ _ ?_
            clear hK K
            refine wpAny_ready (rs:=[2]) (by kernel_rfl) (by simp) ?_
            refine AllReady.cons rfl (fun K hK=> ?_) AllReady.nil
            go_simp
            go_wp2_with (go_at_call 3;refine(gGets (by first|assumption) _).mono ?_;rintro e w1 ⟨rfl,g1⟩)
            refine wpAny_take (i:=3) (v:=.bool false) rfl (by kernel_rfl) (by kernel_rfl) (by kernel_rfl) (fun _ _ _ h=>h) (Or.inl ⟨by kernel_rfl,fun w=>by go_simp⟩) ?_
            refine wpAny_take (i:=4) (v:=.bool false) rfl (by kernel_rfl) (by kernel_rfl) (by kernel_rfl) (fun _ _ _ h=>h) (Or.inl ⟨by kernel_rfl,fun w=>by go_simp⟩) ?_
            refine wpAny_take (i:=5) (v:=.string S) rfl (by kernel_rfl) (by kernel_rfl) (by kernel_rfl) (fun _ _ _ h=>h) (Or.inl ⟨by kernel_rfl,fun w=>by go_simp⟩) ?_
            refine wpAny_take (i:=6) (v:=.int .i64 i) rfl (by kernel_rfl) (by kernel_rfl) (by kernel_rfl) (fun _ _ _ h=>h) (Or.inl ⟨by kernel_rfl,fun w=>by go_simp⟩) ?_
            refine wpAny_take (i:=7) (v:=.string (S.extract 0 i)) rfl (by kernel_rfl) (by kernel_rfl) (by kernel_rfl) (fun _ _ _ h=>h) (Or.inl ⟨by kernel_rfl,fun w=>by go_simp⟩) ?_
            refine wpAny_ready (rs:=[8]) (by kernel_rfl) (by simp) ?_
            refine AllReady.cons rfl (fun K hK=> ?_) AllReady.nil
            go_simp
            go_wp2_with (go_at_call 3;refine(gGets (by first|assumption) _).mono ?_;rintro e w2 ⟨rfl,g2⟩)
            refine wpAny_take (i:=9) (v:=.bool false) rfl (by kernel_rfl) (by kernel_rfl) (by kernel_rfl) (fun _ _ _ h=>h) (Or.inl ⟨by kernel_rfl,fun w=>by go_simp⟩) ?_
            refine wpAny_take (i:=10) (v:=.bool false) rfl (by kernel_rfl) (by kernel_rfl) (by kernel_rfl) (fun _ _ _ h=>h) (Or.inl ⟨by kernel_rfl,fun w=>by go_simp⟩) ?_
            refine wpAny_take (i:=11) (v:=.bool false) rfl (by kernel_rfl) (by kernel_rfl) (by kernel_rfl) (fun _ _ _ h=>h) (Or.inl ⟨by kernel_rfl,fun w=>by go_simp⟩) ?_
            refine wpAny_take (i:=12) (v:=.int .u8 48) rfl (by kernel_rfl) (by kernel_rfl) (by kernel_rfl) (fun _ _ _ h=>h) (Or.inl ⟨by kernel_rfl,fun w=>by go_simp⟩) ?_
            refine wpAny_take (i:=13) (v:=.bool true) rfl (by kernel_rfl) (by kernel_rfl) (by kernel_rfl) (fun _ _ _ h=>h) (Or.inl ⟨by kernel_rfl,fun w=>by go_simp⟩) ?_
            refine wpAny_take (i:=14) (v:=.bool true) rfl (by kernel_rfl) (by kernel_rfl) (by kernel_rfl) (fun _ _ _ h=>h) (Or.inl ⟨by kernel_rfl,fun w=>by go_simp⟩) ?_
            refine wpAny_take (i:=15) (v:=.string S) rfl (by kernel_rfl) (by kernel_rfl) (by kernel_rfl) (fun _ _ _ h=>h) (Or.inl ⟨by kernel_rfl,fun w=>by go_simp⟩) ?_
            refine wpAny_take (i:=16) (v:=.int .i64 i) rfl (by kernel_rfl) (by kernel_rfl) (by kernel_rfl) (fun _ _ _ h=>h) (Or.inl ⟨by kernel_rfl,fun w=>by go_simp⟩) ?_
            refine wpAny_take (i:=17) (v:=.string (S.extract 0 i)) rfl (by kernel_rfl) (by kernel_rfl) (by kernel_rfl) (fun _ _ _ h=>h) (Or.inl ⟨by kernel_rfl,fun w=>by go_simp⟩) ?_
            refine wpAny_take (i:=18) (v:=.string S) rfl (by kernel_rfl) (by kernel_rfl) (by kernel_rfl) (fun _ _ _ h=>h) (Or.inl ⟨by kernel_rfl,fun w=>by go_simp⟩) ?_
            refine wpAny_take (i:=19) (v:=.int .i64 i) rfl (by kernel_rfl) (by kernel_rfl) (by kernel_rfl) (fun _ _ _ h=>h) (Or.inl ⟨by kernel_rfl,fun w=>by go_simp⟩) ?_
            refine wpAny_take (i:=20) (v:=.int .i64 (i+1)) rfl (by kernel_rfl) (by kernel_rfl) (by kernel_rfl) (fun _ _ _ h=>h) (Or.inl ⟨by kernel_rfl,fun w=>by go_simp⟩) ?_
            refine wpAny_take (i:=21) (v:=.string (S.extract (i+1) S.size)) rfl (by kernel_rfl) (by kernel_rfl) (by kernel_rfl) (fun _ _ _ h=>h) (Or.inl ⟨by kernel_rfl,fun w=>by go_simp⟩) ?_
            refine wpAny_take (i:=22) (v:=.string (S.extract 0 i++S.extract (i+1) S.size)) rfl (by kernel_rfl) (by kernel_rfl) (by kernel_rfl) (fun _ _ _ h=>h) (Or.inl ⟨by kernel_rfl,fun w=>by go_simp⟩) ?_
            refine wpAny_ready (rs:=[23]) (by kernel_rfl) (by simp) ?_
            refine AllReady.cons rfl (fun K hK=> ?_) AllReady.nil
            go_simp
            go_wp2_with (go_at_call 11;refine(gNil (by first|assumption) _ HZ.out.1 HZ.out.2).mono ?_;rintro e w3 ⟨rfl,g3⟩)
            refine wpAny_take (i:=24) (v:=.bool false) rfl (by kernel_rfl) (by kernel_rfl) (by kernel_rfl) (fun _ _ _ h=>h) (Or.inl ⟨by kernel_rfl,fun w=>by go_simp⟩) ?_
            refine wpAny_take (i:=25) (v:=.bool false) rfl (by kernel_rfl) (by kernel_rfl) (by kernel_rfl) (fun _ _ _ h=>h) (Or.inl ⟨by kernel_rfl,fun w=>by go_simp⟩) ?_
            refine wpAny_take (i:=26) (v:=.bool false) rfl (by kernel_rfl) (by kernel_rfl) (by kernel_rfl) (fun _ _ _ h=>h) (Or.inl ⟨by kernel_rfl,fun w=>by go_simp⟩) ?_
            refine wpAny_done (by kernel_rfl) ?_ _
            go_simp
            go_wp2_with fail
            go_roundw
            case rel=>exact⟨m+1,by omega,by go_num,by assumption⟩
            case measure=>simp[Go.RowKit.intOf];omega
          · have hd:(c==48)=false:=by simpa using h48
            go_wp2_with fail
            refine wp_region_any (by kernel_rfl) ?_
            try (change wpAny _ _ _ _ _ _ _ (World.drew _))
            refine wpAny_take (i:=0) (v:=.slice (some ⟨wr.heap.size,0,none⟩) S.size cp) rfl (by kernel_rfl) (by kernel_rfl) (by kernel_rfl) (fun _ _ _ h=>h) (Or.inl ⟨by kernel_rfl,fun w=>by go_simp⟩) ?_
            refine wpAny_ready (rs:=[1]) (by kernel_rfl) (by simp) ?_
            refine AllReady.cons rfl (fun K hK=> ?_) AllReady.nil
            go_simp
            refine hK _ _ ?_
            clear hK K
            refine wpAny_ready (rs:=[2]) (by kernel_rfl) (by simp) ?_
            refine AllReady.cons rfl (fun K hK=> ?_) AllReady.nil
            go_simp
            go_wp2_with (go_at_call 3;refine(gGets (by first|assumption) _).mono ?_;rintro e w1 ⟨rfl,g1⟩)
            refine wpAny_take (i:=3) (v:=.bool false) rfl (by kernel_rfl) (by kernel_rfl) (by kernel_rfl) (fun _ _ _ h=>h) (Or.inl ⟨by kernel_rfl,fun w=>by go_simp⟩) ?_
            refine wpAny_take (i:=4) (v:=.bool false) rfl (by kernel_rfl) (by kernel_rfl) (by kernel_rfl) (fun _ _ _ h=>h) (Or.inl ⟨by kernel_rfl,fun w=>by go_simp⟩) ?_
            refine wpAny_take (i:=5) (v:=.string S) rfl (by kernel_rfl) (by kernel_rfl) (by kernel_rfl) (fun _ _ _ h=>h) (Or.inl ⟨by kernel_rfl,fun w=>by go_simp⟩) ?_
            refine wpAny_take (i:=6) (v:=.int .i64 i) rfl (by kernel_rfl) (by kernel_rfl) (by kernel_rfl) (fun _ _ _ h=>h) (Or.inl ⟨by kernel_rfl,fun w=>by go_simp⟩) ?_
            refine wpAny_take (i:=7) (v:=.string (S.extract 0 i)) rfl (by kernel_rfl) (by kernel_rfl) (by kernel_rfl) (fun _ _ _ h=>h) (Or.inl ⟨by kernel_rfl,fun w=>by go_simp⟩) ?_
            refine wpAny_ready (rs:=[8]) (by kernel_rfl) (by simp) ?_
            refine AllReady.cons rfl (fun K hK=> ?_) AllReady.nil
            go_simp
            go_wp2_with (go_at_call 3;refine(gGets (by first|assumption) _).mono ?_;rintro e w2 ⟨rfl,g2⟩)
            refine wpAny_take (i:=9) (v:=.bool false) rfl (by kernel_rfl) (by kernel_rfl) (by kernel_rfl) (fun _ _ _ h=>h) (Or.inl ⟨by kernel_rfl,fun w=>by go_simp⟩) ?_
            refine wpAny_take (i:=10) (v:=.bool false) rfl (by kernel_rfl) (by kernel_rfl) (by kernel_rfl) (fun _ _ _ h=>h) (Or.inl ⟨by kernel_rfl,fun w=>by go_simp⟩) ?_
            refine wpAny_take (i:=11) (v:=.bool false) rfl (by kernel_rfl) (by kernel_rfl) (by kernel_rfl) (fun _ _ _ h=>h) (Or.inl ⟨by kernel_rfl,fun w=>by go_simp⟩) ?_
            refine wpAny_take (i:=12) (v:=.int .u8 c) rfl (by kernel_rfl) (by kernel_rfl) (by kernel_rfl) (fun _ _ _ h=>h) (Or.inl ⟨by kernel_rfl,fun w=>by go_simp⟩) ?_
            refine wpAny_take (i:=13) (v:=.bool false) rfl (by kernel_rfl) (by kernel_rfl) (by kernel_rfl) (fun _ _ _ h=>h) (Or.inl ⟨by kernel_rfl,fun w=>by go_simp⟩) ?_
            refine wpAny_take (i:=14) (v:=.bool false) rfl (by kernel_rfl) (by kernel_rfl) (by kernel_rfl) (fun _ _ _ h=>h) (Or.inl ⟨by kernel_rfl,fun w=>by go_simp⟩) ?_
            refine wpAny_take (i:=15) (v:=undef) rfl (by kernel_rfl) (by kernel_rfl) (by kernel_rfl) (fun _ _ _ h=>h) (Or.inr ⟨by kernel_rfl,rfl⟩) ?_
            refine wpAny_take (i:=16) (v:=undef) rfl (by kernel_rfl) (by kernel_rfl) (by kernel_rfl) (fun _ _ _ h=>h) (Or.inr ⟨by kernel_rfl,rfl⟩) ?_
            refine wpAny_take (i:=17) (v:=undef) rfl (by kernel_rfl) (by kernel_rfl) (by kernel_rfl) (fun _ _ _ h=>h) (Or.inr ⟨by kernel_rfl,rfl⟩) ?_
            refine wpAny_take (i:=18) (v:=undef) rfl (by kernel_rfl) (by kernel_rfl) (by kernel_rfl) (fun _ _ _ h=>h) (Or.inr ⟨by kernel_rfl,rfl⟩) ?_
            refine wpAny_take (i:=19) (v:=undef) rfl (by kernel_rfl) (by kernel_rfl) (by kernel_rfl) (fun _ _ _ h=>h) (Or.inr ⟨by kernel_rfl,rfl⟩) ?_
            refine wpAny_take (i:=20) (v:=undef) rfl (by kernel_rfl) (by kernel_rfl) (by kernel_rfl) (fun _ _ _ h=>h) (Or.inr ⟨by kernel_rfl,rfl⟩) ?_
            refine wpAny_take (i:=21) (v:=undef) rfl (by kernel_rfl) (by kernel_rfl) (by kernel_rfl) (fun _ _ _ h=>h) (Or.inr ⟨by kernel_rfl,rfl⟩) ?_
            refine wpAny_take (i:=22) (v:=undef) rfl (by kernel_rfl) (by kernel_rfl) (by kernel_rfl) (fun _ _ _ h=>h) (Or.inr ⟨by kernel_rfl,rfl⟩) ?_
            refine wpAny_take (i:=23) (v:=undef) rfl (by kernel_rfl) (by kernel_rfl) (by kernel_rfl) (fun _ _ _ h=>h) (Or.inr ⟨by kernel_rfl,rfl⟩) ?_
            refine wpAny_take (i:=24) (v:=undef) rfl (by kernel_rfl) (by kernel_rfl) (by kernel_rfl) (fun _ _ _ h=>h) (Or.inr ⟨by kernel_rfl,rfl⟩) ?_
            refine wpAny_take (i:=25) (v:=.bool false) rfl (by kernel_rfl) (by kernel_rfl) (by kernel_rfl) (fun _ _ _ h=>h) (Or.inl ⟨by kernel_rfl,fun w=>by go_simp⟩) ?_
            refine wpAny_take (i:=26) (v:=.bool false) rfl (by kernel_rfl) (by kernel_rfl) (by kernel_rfl) (fun _ _ _ h=>h) (Or.inl ⟨by kernel_rfl,fun w=>by go_simp⟩) ?_
            refine wpAny_done (by kernel_rfl) ?_ _
            go_simp
            go_wp2_with fail
            go_roundw
            case rel=>exact⟨m+1,by omega,by go_num,by assumption⟩
            case measure=>simp[Go.RowKit.intOf];omega
        · have hmi:¬(m:Int)<7:=by omega
          go_wp2_with fail
          go_roundw
          case rel=>exact⟨i+1,by omega,by go_num,⟨gA.1,F8.out.trans gA.2⟩⟩
          case measure=>simp[Go.RowKit.intOf];omega
     · have hii:¬(i:Int)<S.size:=by rw[HSZ.out];omega
       have g8s:=g8.1
       have F9:Hid (Fr (fun _=>False) w wr):=hide (F6.out.trans g8.2)
       have HK:=hide (mk_many wr)
       obtain⟨MZ,hmk,hmz⟩:=HK.out
       clear HK
       have hG9:GG w (wr.alloc (.cells MZ 3)):=GG.alloc ⟨g8.1,F9.out⟩ _
       have HM:=hide hmz
       clear hmz g8
       go_wp2_with (first
        |(go_at_call 10;refine(gPuts (r:=⟨12,0,[],0,List.replicate 513 0⟩) (u:=.slice (some ⟨wr.heap.size,0,none⟩) 513 513) ⟨(hG9.alloc _).1,Fr.refl _ _⟩ (hal2 wr _ _) (LstAt.row (hal1 wr _ _) (by rw[List.length_replicate]) (by decide) (many_get HM.out)) many_few many_shr).mono ?_;rintro e w1 ⟨rfl,g1⟩
          have HLm:Hid (LstAt w1 (.slice (some ⟨wr.heap.size,1,none⟩) 512 512) (List.replicate 512 0)):=hide (LstAt.rowAt ((g1.2.block _ (by simp;omega) (fun h=>h)).trans (hal1 wr _ _)) (by rw[List.length_replicate]) (by decide) (many_get1 HM.out))
          have G1:GG w w1:=(hG9.alloc _).next g1.2
          clear g1)
        |(go_at_call 12;refine(gMay (r:=⟨12,0,[],0,List.replicate 512 0⟩) (u:=.slice (some ⟨wr.heap.size,1,none⟩) 512 512) G1 HLm.out (by decide) many_may).mono ?_;rintro e w2 ⟨rfl,g2⟩;obtain⟨Z,MB,hmk2,hcb2⟩:=mk_bytes w2)
        |(go_at_call 3;refine(gGets (by first|exact g2.alloc _|assumption) _).mono ?_;rintro e w3 ⟨rfl,g3⟩)
        |(go_at_call 5;refine(gWorks g3).mono ?_;rintro e w4 ⟨rfl,g4⟩))
       go_ret
       exact⟨rfl,g4.2⟩
end Go.Proofs.YtpjodoipceddpaaGreatDoor.Aw
