import Derived.Test.YtkfcehagblhjaaaGreatDoorT1
import Derived.Shelf.RegionOpenPlain
import Derived.WalkKit
import Derived.Lib.Walk
import Derived.Lib.SliceRun
import Derived.Lib.Split
import Derived.OwnWalk
import Derived.Shelf.SlicesE.Clone
set_option linter.unusedVariables false
set_option linter.unusedSimpArgs false
set_option linter.defProp false
namespace Go.Abs.U54
open Go.RowKit Go.Proofs Go.Lib
theorem info137:(Tryz.prog.info? 137).map (fun i=>(i.zero,i.size,i.bytes))=some (some (Value.agg #[.string ⟨#[]⟩,.string ⟨#[]⟩,.bool false]),3,40):=by kernel_rfl
theorem info68:(Tryz.prog.info? 68).map (fun i=>(i.zero,i.size,i.bytes))=some (some (Value.agg #[.int .i64 0,.int .i64 0,.int .i64 0]),3,24):=by kernel_rfl
theorem info3:(Tryz.prog.info? 3).map (fun i=>(i.zero,i.size,i.bytes))=some (some (Value.int .i64 0),1,8):=by kernel_rfl
set_option maxHeartbeats 2000000 in
set_option maxRecDepth 100000 in
theorem clone_A(a:Addr)(n c:Nat)(news:List Value)(w:World)(hl:news.length=n * 3)(hn:n≤maxLen)(hbig:n * 40≤140737488355328)
 (hc:∀j u,news[j]?=some u→w.cell? (a.add j)=some u) (h1:∀u∈news,u.oneCell'=true):
 Calls Tryz.prog 146 #[.slice (some a) n c] w fun e w'=>∃v',e=.returned v'∧w'.ownsRow w.heap.size 137 3 v' n news∧v'≠.slice none 0 0∧Below w.heap.size w w':=by
 have mixed:Tryz.prog.follows .mixedOrders=true:=by kernel_rfl
 have t4:=Tryz.underlying4;have a4:=Tryz.isAgg4;have z4:=Tryz.sizeOf4;have v4:=Tryz.zeroValue4
 have tS:=Tryz.underlying22;have aS:=Tryz.isAgg22;have zS:=Tryz.sizeOf22;have vS:=Tryz.zeroValue22
 have zE:=Tryz.sizeOf137
 obtain⟨i0,hi,hz0,hz1,hz2⟩:=info_parts info137
 have qS:∀ (w:World) (a:Option Addr) (n c n' c':Nat),(binOp .eql 22 (.slice a n c) (.slice none n' c')).run Tryz.prog w=.ok (.bool a.isNone) w:=fun w a n c n' c'=>Lib.run_eql_slice_nil w _ _ a n c n' c' tS
 have uS:∀w,Sem.run Tryz.prog (underlying 22) w=.ok (TypeDesc.slice 137) w:=run_underlying tS
 have A:Aside (∀j u,news[j]?=some u→w.cell? (a.add j)=some u):=hc
 clear hc
 go_enter Tryz.func146,Tryz.ntmps146
 go_wp2_with (at_builtin;refine wpList_append_own _ rfl _ _ 22 rfl w.heap.size 137 i0 _ 3 40 tS hi hz0 hz1 hz2 rfl (by decide) _ _ _ rfl (World.ownsRow_made w #[] 0 (Nat.le_refl _) (Nat.zero_le _) (by simp)) a n c news rfl ?qc1 ?qc2 ?qc3 ?qc4 ?qc5 ?qc6 ?_)
 case qc1=>exact hl
 case qc2=>
  intro j u hj
  exact Lib.cell?_alloc_some _ (A.out j u hj)
 case qc3=>exact h1
 case qc4=>rw[Nat.zero_add];exact hn
 case qc5=>rw[Nat.zero_add];exact hbig
 case qc6=>simp
 intro v' w1 hown hgrow hnil
 go_wp2
 go_ret
 refine⟨v',rfl,by simpa using hown,?_,?_⟩
 ·first|exact hnil|(intro e;exact absurd (hnil.1 e).1 (by simp))
 exact((Below.refl _ w).alloc (Nat.le_refl _) _).grown hgrow (by simp) (by intro k hk;simp[Value.ownBlock]at hk;omega)
set_option maxHeartbeats 1000000 in
theorem clone_A_nil(n c:Nat)(w:World):Calls Tryz.prog 146 #[.slice none n c] w fun e w'=>e=.returned (.slice none 0 0)∧w'=w:=by
 have mixed:Tryz.prog.follows .mixedOrders=true:=by kernel_rfl
 have t4:=Tryz.underlying4;have a4:=Tryz.isAgg4;have z4:=Tryz.sizeOf4;have v4:=Tryz.zeroValue4
 have tS:=Tryz.underlying22;have aS:=Tryz.isAgg22;have zS:=Tryz.sizeOf22;have vS:=Tryz.zeroValue22
 have qS:∀ (w:World) (a:Option Addr) (n c n' c':Nat),(binOp .eql 22 (.slice a n c) (.slice none n' c')).run Tryz.prog w=.ok (.bool a.isNone) w:=fun w a n c n' c'=>Lib.run_eql_slice_nil w _ _ a n c n' c' tS
 go_enter Tryz.func146,Tryz.ntmps146
 go_wp2
 go_ret
 exact⟨rfl,rfl⟩
set_option maxHeartbeats 2000000 in
set_option maxRecDepth 100000 in
theorem clone_Q(a:Addr)(n c:Nat)(news:List Value)(w:World)(hl:news.length=n * 3)(hn:n≤maxLen)(hbig:n * 24≤140737488355328)
 (hc:∀j u,news[j]?=some u→w.cell? (a.add j)=some u) (h1:∀u∈news,u.oneCell'=true):
 Calls Tryz.prog 113 #[.slice (some a) n c] w fun e w'=>∃v',e=.returned v'∧w'.ownsRow w.heap.size 68 3 v' n news∧v'≠.slice none 0 0∧Below w.heap.size w w':=by
 have mixed:Tryz.prog.follows .mixedOrders=true:=by kernel_rfl
 have t4:=Tryz.underlying4;have a4:=Tryz.isAgg4;have z4:=Tryz.sizeOf4;have v4:=Tryz.zeroValue4
 have tS:=Tryz.underlying66;have aS:=Tryz.isAgg66;have zS:=Tryz.sizeOf66;have vS:=Tryz.zeroValue66
 have zE:=Tryz.sizeOf68
 obtain⟨i0,hi,hz0,hz1,hz2⟩:=info_parts info68
 have qS:∀ (w:World) (a:Option Addr) (n c n' c':Nat),(binOp .eql 66 (.slice a n c) (.slice none n' c')).run Tryz.prog w=.ok (.bool a.isNone) w:=fun w a n c n' c'=>Lib.run_eql_slice_nil w _ _ a n c n' c' tS
 have uS:∀w,Sem.run Tryz.prog (underlying 66) w=.ok (TypeDesc.slice 68) w:=run_underlying tS
 have A:Aside (∀j u,news[j]?=some u→w.cell? (a.add j)=some u):=hc
 clear hc
 go_enter Tryz.func113,Tryz.ntmps113
 go_wp2_with (at_builtin;refine wpList_append_own _ rfl _ _ 66 rfl w.heap.size 68 i0 _ 3 24 tS hi hz0 hz1 hz2 rfl (by decide) _ _ _ rfl (World.ownsRow_made w #[] 0 (Nat.le_refl _) (Nat.zero_le _) (by simp)) a n c news rfl ?qc1 ?qc2 ?qc3 ?qc4 ?qc5 ?qc6 ?_)
 case qc1=>exact hl
 case qc2=>
  intro j u hj
  exact Lib.cell?_alloc_some _ (A.out j u hj)
 case qc3=>exact h1
 case qc4=>rw[Nat.zero_add];exact hn
 case qc5=>rw[Nat.zero_add];exact hbig
 case qc6=>simp
 intro v' w1 hown hgrow hnil
 go_wp2
 go_ret
 refine⟨v',rfl,by simpa using hown,?_,?_⟩
 ·first|exact hnil|(intro e;exact absurd (hnil.1 e).1 (by simp))
 exact((Below.refl _ w).alloc (Nat.le_refl _) _).grown hgrow (by simp) (by intro k hk;simp[Value.ownBlock]at hk;omega)
set_option maxHeartbeats 1000000 in
theorem clone_Q_nil(n c:Nat)(w:World):Calls Tryz.prog 113 #[.slice none n c] w fun e w'=>e=.returned (.slice none 0 0)∧w'=w:=by
 have mixed:Tryz.prog.follows .mixedOrders=true:=by kernel_rfl
 have t4:=Tryz.underlying4;have a4:=Tryz.isAgg4;have z4:=Tryz.sizeOf4;have v4:=Tryz.zeroValue4
 have tS:=Tryz.underlying66;have aS:=Tryz.isAgg66;have zS:=Tryz.sizeOf66;have vS:=Tryz.zeroValue66
 have qS:∀ (w:World) (a:Option Addr) (n c n' c':Nat),(binOp .eql 66 (.slice a n c) (.slice none n' c')).run Tryz.prog w=.ok (.bool a.isNone) w:=fun w a n c n' c'=>Lib.run_eql_slice_nil w _ _ a n c n' c' tS
 go_enter Tryz.func113,Tryz.ntmps113
 go_wp2
 go_ret
 exact⟨rfl,rfl⟩
set_option maxHeartbeats 2000000 in
set_option maxRecDepth 100000 in
theorem clone_I(a:Addr)(n c:Nat)(news:List Value)(w:World)(hl:news.length=n * 1)(hn:n≤maxLen)(hbig:n * 8≤140737488355328)
 (hc:∀j u,news[j]?=some u→w.cell? (a.add j)=some u) (h1:∀u∈news,u.oneCell'=true):
 Calls Tryz.prog 109 #[.slice (some a) n c] w fun e w'=>∃v',e=.returned v'∧w'.ownsRow w.heap.size 3 1 v' n news∧v'≠.slice none 0 0∧Below w.heap.size w w':=by
 have mixed:Tryz.prog.follows .mixedOrders=true:=by kernel_rfl
 have t4:=Tryz.underlying4;have a4:=Tryz.isAgg4;have z4:=Tryz.sizeOf4;have v4:=Tryz.zeroValue4
 have tS:=Tryz.underlying59;have aS:=Tryz.isAgg59;have zS:=Tryz.sizeOf59;have vS:=Tryz.zeroValue59
 have zE:=Tryz.sizeOf3
 obtain⟨i0,hi,hz0,hz1,hz2⟩:=info_parts info3
 have qS:∀ (w:World) (a:Option Addr) (n c n' c':Nat),(binOp .eql 59 (.slice a n c) (.slice none n' c')).run Tryz.prog w=.ok (.bool a.isNone) w:=fun w a n c n' c'=>Lib.run_eql_slice_nil w _ _ a n c n' c' tS
 have uS:∀w,Sem.run Tryz.prog (underlying 59) w=.ok (TypeDesc.slice 3) w:=run_underlying tS
 have A:Aside (∀j u,news[j]?=some u→w.cell? (a.add j)=some u):=hc
 clear hc
 go_enter Tryz.func109,Tryz.ntmps109
 go_wp2_with (at_builtin;refine wpList_append_own _ rfl _ _ 59 rfl w.heap.size 3 i0 _ 1 8 tS hi hz0 hz1 hz2 rfl (by decide) _ _ _ rfl (World.ownsRow_made w #[] 0 (Nat.le_refl _) (Nat.zero_le _) (by simp)) a n c news rfl ?qc1 ?qc2 ?qc3 ?qc4 ?qc5 ?qc6 ?_)
 case qc1=>exact hl
 case qc2=>
  intro j u hj
  exact Lib.cell?_alloc_some _ (A.out j u hj)
 case qc3=>exact h1
 case qc4=>rw[Nat.zero_add];exact hn
 case qc5=>rw[Nat.zero_add];exact hbig
 case qc6=>simp
 intro v' w1 hown hgrow hnil
 go_wp2
 go_ret
 refine⟨v',rfl,by simpa using hown,?_,?_⟩
 ·first|exact hnil|(intro e;exact absurd (hnil.1 e).1 (by simp))
 exact((Below.refl _ w).alloc (Nat.le_refl _) _).grown hgrow (by simp) (by intro k hk;simp[Value.ownBlock]at hk;omega)
set_option maxHeartbeats 1000000 in
theorem clone_I_nil(n c:Nat)(w:World):Calls Tryz.prog 109 #[.slice none n c] w fun e w'=>e=.returned (.slice none 0 0)∧w'=w:=by
 have mixed:Tryz.prog.follows .mixedOrders=true:=by kernel_rfl
 have t4:=Tryz.underlying4;have a4:=Tryz.isAgg4;have z4:=Tryz.sizeOf4;have v4:=Tryz.zeroValue4
 have tS:=Tryz.underlying59;have aS:=Tryz.isAgg59;have zS:=Tryz.sizeOf59;have vS:=Tryz.zeroValue59
 have qS:∀ (w:World) (a:Option Addr) (n c n' c':Nat),(binOp .eql 59 (.slice a n c) (.slice none n' c')).run Tryz.prog w=.ok (.bool a.isNone) w:=fun w a n c n' c'=>Lib.run_eql_slice_nil w _ _ a n c n' c' tS
 go_enter Tryz.func109,Tryz.ntmps109
 go_wp2
 go_ret
 exact⟨rfl,rfl⟩
theorem splitB_le(sep:ByteArray)(save:Nat):∀ (k:Nat) (s:ByteArray),(Lib.splitB sep save k s).length≤k+1
 | 0,s=>Nat.le_refl _
 | k+1,s=>by
   rw[Lib.splitB]
   split
   ·simp
   have:=splitB_le sep save k (s.extract ((Lib.indexB s sep).toNat+sep.size) s.size)
   simp only[List.length_cons]
   omega
theorem cellsOf_at{l:List ByteArray}{N j:Nat}{x:ByteArray}(h:l[j]?=some x):(Lib.cellsOf l N)[j]?=some (Value.string x):=by
 unfold Lib.cellsOf
 have hj:=(List.getElem?_eq_some_iff.1 h).1
 rw[List.getElem?_toArray,List.getElem?_append_left (by simpa using hj),List.getElem?_map,h]
 rfl
end Go.Abs.U54
