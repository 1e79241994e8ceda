/- strings.Builder of the call's own: WriteString, String. -/
import Derived.Test.YtpjodoipceddpaaGreatDoorBase
import Derived.Test.YtpjodoipceddpaaGreatDoorProg
import Derived.RowKit
import Derived.Test.YtpjodoipceddpaaGreatDoorShelf
import Derived.Lib.AppendStr
import Derived.Lib.OthersKept
namespace Go.Proofs.YtpjodoipceddpaaGreatDoor
open Go.RowKit Go.Lib
def Bd (w:World) (b:Nat) (l:List UInt8):Prop:=Lib.IsBuilderF 65 5 b b (Lib.byteCells l) w
theorem Bd.lt {w:World} {b:Nat} {l:List UInt8} (h:Bd w b l):b<w.heap.size:=by
 rcases h with h|h
 · exact h.lt
 · exact h.lt
theorem Bd.fr {w w':World} {b:Nat} {l:List UInt8} (h:Bd w b l) (f:Fr (fun _=>False) w w'):Bd w' b l:=by
 have g:w.grownBy w' none:=⟨f.os,f.tape,f.output,f.size,fun k hk _=>f.block k hk (fun h=>h)⟩
 have hlt:=h.lt
 rcases h with ⟨hB,v,hb,ho,hn⟩|⟨hB,v,hb,ho,hn⟩
 · exact .inl ⟨hB,v,(f.block b hlt (fun h=>h)).trans hb,ho.kept g (by cases hv:v.ownBlock<;>simp),hn⟩
 · exact .inr ⟨hB,v,(f.block b hlt (fun h=>h)).trans hb,ho.kept g (by cases hv:v.ownBlock<;>simp),hn⟩
theorem Bd.fresh (w:World):Bd (w.alloc (.cells #[.pointer none,.slice none 0 0] 65)) w.heap.size []:=Lib.IsBuilderF.of (Lib.fresh_isBuilder _ _ w)
theorem bld_size :(Tryz.prog.info? 65).map (fun i=>(i.size !=0))=some true:=by kernel_rfl
theorem bld_lies :liesAt Tryz.prog Tryz.prog.depth 65 (2 / Tryz.prog.cellsOf 65) 0 65 1=true:=by kernel_rfl
theorem bld_byte :(Tryz.prog.info? 5).map (fun i=>(i.zero,i.size,i.bytes))=some (some (.int .u8 0),1,1):=by kernel_rfl
set_option maxHeartbeats 1000000 in
set_option maxRecDepth 100000 in
theorem copyCheck_used (b:Nat) (w:World) (h0:w.cell? ⟨b,0,none⟩=some (.pointer (some ⟨b,0,none⟩))):
 Calls Tryz.prog 54 #[.pointer (some ⟨b,0,none⟩)] w fun e w'=>e=.returned (.tuple #[])∧w'=w:=by
 obtain⟨j,hj,_⟩:=Option.map_eq_some_iff.1 bld_size
 go_enter Tryz.func54,Tryz.ntmps54
 go_wp2
 rw[Lib.run_neq_ptr_same w _ Tryz.underlying63 hj]
 go_wp2
 go_end0
 exact⟨rfl,rfl⟩
set_option maxHeartbeats 1000000 in
set_option maxRecDepth 100000 in
theorem copyCheck_fresh (b:Nat) (w:World) (h0:w.cell? ⟨b,0,none⟩=some (.pointer none)) (hsh:w.shape? b=some (65,2)) (hfz:w.frozen? ⟨b,0,none⟩=false):
 Calls Tryz.prog 54 #[.pointer (some ⟨b,0,none⟩)] w fun e w'=>e=.returned (.tuple #[])∧w'=w.setCell ⟨b,0,none⟩ (.pointer (some ⟨b,0,none⟩)):=by
 obtain⟨j,hj,hjs⟩:=Option.map_eq_some_iff.1 bld_size
 have hjs:j.size≠0:=by simpa using hjs
 go_enter Tryz.func54,Tryz.ntmps54
 go_wp2
 rw[Lib.run_to_unsafe w ⟨b,0,none⟩ Tryz.underlying63 Tryz.underlying101 hj hjs hsh (Nat.zero_lt_succ 1)]
 simp only[Result.andThen]
 rw[Oper.upon_value]
 go_wp2
 rw[run_callFunc_extern Tryz.func68 (by kernel_rfl) (by kernel_rfl) (by kernel_rfl) (e:=Extern.AbiNoEscape.same) (by kernel_rfl)]
 rw[Lib.run_noEscape]
 simp only[Result.andThen]
 rw[Oper.upon_value]
 go_wp2
 rw[Lib.run_from_unsafe w ⟨b,0,none⟩ Tryz.underlying101 Tryz.underlying63 hj hsh bld_lies]
 simp only[Result.andThen]
 rw[Oper.upon_value]
 go_wp2
 go_end0
 exact⟨rfl,rfl⟩
theorem copyCheck_any (B b:Nat) (bs:List Value) (w:World) (h:Lib.IsBuilderF 65 5 B b bs w):
 Calls Tryz.prog 54 #[.pointer (some ⟨b,0,none⟩)] w fun e w'=>e=.returned (.tuple #[])∧(Lib.BuilderAtF 65 5 B b (.pointer (some ⟨b,0,none⟩)) bs w'∧Below B w w'∧Lib.OthersKept 5 (some b) w w'):=by
 rcases h with h|h
 · refine(copyCheck_fresh b w h.cell0 h.shape h.frozen0).mono ?_
   rintro e w' ⟨rfl,rfl⟩
   exact⟨rfl,h.used _,(Below.refl B w).setCell (p:=⟨b,0,none⟩) h.1 _,(Lib.OthersKept.refl _ _ w).setCell ⟨b,0,none⟩ rfl _⟩
 · refine(copyCheck_used b w h.cell0).mono ?_
   rintro e w' ⟨rfl,rfl⟩
   exact⟨rfl,h,Below.refl B _,Lib.OthersKept.refl _ _ _⟩
set_option maxHeartbeats 2000000 in
set_option maxRecDepth 100000 in
theorem writeString_any (b:Nat) (l:List UInt8) (s:ByteArray) (w:World) (h:Bd w b l) (hlen:l.length+s.size≤100000000000):
 Calls Tryz.prog 31 #[.pointer (some ⟨b,0,none⟩),.string s] w fun e w'=>e=.returned (.tuple #[.int .i64 s.size,.nilIface])∧Bd w' b (l++s.data.toList)∧Below b w w'∧Lib.OthersKept 5 (some b) w w':=by
 obtain⟨i0,hi,hz0,hz1,hz2⟩:=info_parts bld_byte
 have hlt0:=h.lt
 have hbl:(Lib.byteCells l).length=l.length:=Lib.byteCells_length l
 have happ:Lib.byteCells l++Lib.strCells s=Lib.byteCells (l++s.data.toList):=by simp[Lib.byteCells,Lib.strCells]
 go_enter Tryz.func31,Tryz.ntmps31
 go_wp2_with (go_at_call 54;refine(copyCheck_any b b _ _ h).mono ?_)
 rintro e w1 ⟨rfl,h1,hb1,hk1⟩
 obtain⟨hB,v,hbk,hown,hne⟩:=h1
 have c0:w1.cell? ⟨b,0,none⟩=some (.pointer (some ⟨b,0,none⟩)):=by rw[Lib.cell_of_heap hbk];rfl
 have c1:w1.cell? ⟨b,1,none⟩=some v:=by rw[Lib.cell_of_heap hbk];rfl
 go_wp2_with (at_builtin;refine Lib.wpList_append_own_stringF _ rfl _ _ 40 9 rfl b 5 i0 Tryz.underlying40 Tryz.underlying9 hi hz0 hz1 hz2 _ _ _ rfl hown s rfl ?c3 ?c4 ?c5 ?_)
 case c3=>rw[hbl];unfold maxLen;omega
 case c4=>rw[hbl];omega
 case c5=>have:=hb1.size;omega
 intro v' w2 hown' hgrow _
 have hlt:b<w1.heap.size:=by
  rcases Nat.lt_or_ge b w1.heap.size with h'|h'
  · exact h'
  · simp[Array.getElem?_eq_none h'] at hbk
 have hb2:w2.heap[b]? =some (.cells #[.pointer (some ⟨b,0,none⟩),v] 65 (0,0)):=by
  rw[hgrow.block b hlt (fun e=>hne e.symm)]
  exact hbk
 have d0:w2.cell? ⟨b,0,none⟩=some (.pointer (some ⟨b,0,none⟩)):=by rw[Lib.cell_of_heap hb2];rfl
 have d1:w2.cell? ⟨b,1,none⟩=some v:=by rw[Lib.cell_of_heap hb2];rfl
 have f1:w2.frozen? ⟨b,1,none⟩=false:=Lib.frozen_of_heap hb2 1
 obtain⟨ao,n',cap,rfl⟩:∃ao n' cap,v'=.slice ao n' cap:=by
  rcases hown'.2 with ⟨hv,_⟩|⟨g,cap,cur,fz,hv,_⟩
  · exact⟨_,_,_,hv⟩
  · exact⟨_,_,_,hv⟩
 go_wp2
 go_ret2
 refine⟨rfl,.inr ?_, ?_,(hk1.grown hgrow (Lib.ownsRowF_kind hown)).setCell ⟨b,1,none⟩ rfl _⟩
 · rw[←happ]
   exact Lib.BuilderAtF.put (T:=65) (e:=5) hB hb2 (bs':=Lib.byteCells l++Lib.strCells s) (by rw[List.length_append,Lib.strCells_length,hbl,happ];exact hown') (by decide)
 · exact(hb1.grown hgrow (by have:=hb1.size;omega) (fun k hk=>(hown.lt k hk).1)).setCell (p:=⟨b,1,none⟩) hB _
theorem bldString_any (b:Nat) (l:List UInt8) (w:World) (h:Bd w b l):
 Calls Tryz.prog 32 #[.pointer (some ⟨b,0,none⟩)] w fun e w'=>e=.returned (.string ⟨l.toArray⟩)∧Bd w' b l∧Below b w w':=by
 refine(Tryz.Builder_String_any_k b b l w h (Nat.le_of_lt h.lt)).mono ?_
 rintro e w' ⟨rfl,h1,h2, -⟩
 exact⟨rfl,h1,h2⟩
theorem Fr.of_below_new {w0 w w':World} {b:Nat} (f:Fr (fun _=>False) w0 w) (hb:w0.heap.size≤b) (h:Below b w w'):Fr (fun _=>False) w0 w':=
 f.then_ (Fr.of_below (fp:=fun k=>b≤k) h (fun _ _ hk=>hk)) (fun k hk h2=>by omega)
end Go.Proofs.YtpjodoipceddpaaGreatDoor
