import Derived.Test.YtljahlbklgnfhaaGreatDoorD1
import Derived.Test.YtljahlbklgnfhaaGreatDoorA63
import Derived.Tactics
import Derived.Tactics2
import Derived.RegionTactic
import Derived.Shelf.Lay
import Derived.Shelf.Strings.Builder1
set_option linter.unusedVariables false
set_option linter.unusedSimpArgs false
set_option linter.defProp false
namespace Go.Abs.U48
open Go Go.RowKit Go.Proofs
theorem J9h{γ:List Gh}{Φ:Nat→Nat→Prop}{w:World}{e1 e2:TypeId}{s:Str}{sz:Nat}{xs:List PV}(hI:OInv env γ [.prn e1 s e2 sz xs] Φ w){c:Value}(h:ARel γ [.prn e1 s e2 sz xs] Φ w c (.ref 0 0)):
 ∃g b v0 v1 v2,γ=[g]∧c=.pointer (some ⟨b,0,none⟩)∧g.v=.pointer (some ⟨b,0,none⟩)∧g.own=b::(v1.ownBlock.toList++v2.ownBlock.toList)∧g.own.Nodup∧w.heap[b]?=some (.cells ⟨[v0,v1,v2]⟩ 62 (0,0))∧
  (v0=.pointer none∨v0=.pointer (some ⟨b,0,none⟩))∧(∀k,¬ Φ b k)∧w.ownsRowF 0 e1 1 v1 s.length (s.map fun u=>Value.int .u8 u.toNat)∧(∀c,v1.ownBlock=some c→∀k,¬ Φ c k)∧Q8x Φ w e2 sz xs true ⟨v2,v2.ownBlock.toList⟩:=by
 have hl:γ.length=1:=hI.len
 match γ,hl with
 | [g],_=>
   obtain⟨b,v0,v1,v2,hv,hown,hnd,hheap,hp,h1,h2,h3,h4⟩:=hI.obj 0 _ g rfl rfl
   cases h with
   | ref b' l off hg=>
     have:g.v=.pointer (some ⟨b',0,none⟩):=by simpa[gv]using hg
     rw[hv]at this
     injection this with this
     injection this with this
     injection this with this
     subst this
     exact⟨g,b,v0,v1,v2,rfl,rfl,hv,hown,hnd,hheap,hp,h1,h2,h3,h4⟩
set_option maxHeartbeats 1000000 in
set_option maxRecDepth 100000 in
theorem X0y(b:Nat)(w:World)(h0:w.cell? ⟨b,0,none⟩=some (.pointer (some ⟨b,0,none⟩))):
 Calls Tryz.prog 163 #[.pointer (some ⟨b,0,none⟩)] w fun e w'=>e=.returned (.tuple #[])∧w'=w:=by
 obtain⟨j,hj,hjs⟩:=Option.map_eq_some_iff.1 (show(Tryz.prog.info? 60).map (·.size)=some 2 from by kernel_rfl)
 go_enter Tryz.func163,Tryz.ntmps163
 go_wp2
 rw[Lib.run_neq_ptr_same w _ Tryz.underlying57 hj]
 go_wp2
 go_end0
 exact⟨rfl,rfl⟩
set_option maxHeartbeats 1000000 in
set_option maxRecDepth 100000 in
theorem J7h(b:Nat)(w:World)(h0:w.cell? ⟨b,0,none⟩=some (.pointer none))(hsh:w.shape? b=some (62,3))(hfz:w.frozen? ⟨b,0,none⟩=false):
 Calls Tryz.prog 163 #[.pointer (some ⟨b,0,none⟩)] w fun e w'=>e=.returned (.tuple #[])∧w'=w.setCell ⟨b,0,none⟩ (.pointer (some ⟨b,0,none⟩)):=by
 obtain⟨j,hj,hjs⟩:=Option.map_eq_some_iff.1 (show(Tryz.prog.info? 60).map (·.size)=some 2 from by kernel_rfl)
 go_enter Tryz.func163,Tryz.ntmps163
 go_wp2
 rw[Lib.run_to_unsafe w ⟨b,0,none⟩ Tryz.underlying57 Tryz.underlying164 hj (by rw[hjs];decide) hsh (Nat.zero_lt_succ 2)]
 simp only[Result.andThen]
 rw[Oper.upon_value]
 go_wp2
 rw[run_callFunc_extern Tryz.func196 (by kernel_rfl) (by kernel_rfl) (by kernel_rfl) (e:=Extern.AbiNoEscape.same) (by kernel_rfl)]
 rw[Lib.run_noEscape]
 simp only[Result.andThen]
 rw[Oper.upon_value]
 go_wp2
 rw[Lib.run_from_unsafe w ⟨b,0,none⟩ Tryz.underlying164 Tryz.underlying57 hj hsh (by kernel_rfl)]
 simp only[Result.andThen]
 rw[Oper.upon_value]
 go_wp2
 go_end0
 exact⟨rfl,rfl⟩
theorem K5g(_c:AllG env []):Q0a env S163:=by
 refine⟨?_,Tryz.f163,K9s,rfl,by kernel_rfl⟩
 rintro⟨b1,l2⟩ r h
 show Good env 163 [.ref 0 0] [.prn 5 b1 51 9 (List.map Redir.pv l2)] [] [.prn 5 b1 51 9 (List.map Redir.pv l2)]
 intro w Φ γ cargs hI hl hr
 match cargs,hl with
 | [c0],_=>
   obtain⟨g,b,v0,v1,v2,rfl,rfl,hv,hown,hnd,hheap,hp,h1,h2,h3,h4⟩:=J9h hI (hr 0 c0 _ rfl rfl)
   have hbl:b<w.heap.size:=(Array.getElem?_eq_some_iff.1 hheap).1
   rcases hp with rfl|rfl
   ·refine(J7h b w (by simp[World.cell?,hheap]) (by simp[World.shape?,hheap]) (by simp[World.frozen?,hheap])).mono ?_
    rintro e w' ⟨rfl,rfl⟩
    refine⟨[],[g],Φ,rfl,?_,rfl,fun i v a hv=>by simp at hv⟩
    have hother:∀k,k≠b→(w.setCell ⟨b,0,none⟩ (.pointer (some ⟨b,0,none⟩))).heap[k]?=w.heap[k]?:=fun k hk=>Below.heap_setCell _ _ _ _ (fun e=>hk e)
    have hhere:(w.setCell ⟨b,0,none⟩ (.pointer (some ⟨b,0,none⟩))).heap[b]?=some (.cells ⟨[.pointer (some ⟨b,0,none⟩),v1,v2]⟩ 62 (0,0)):=by
     simp[World.setCell,Array.getElem?_modify,hheap]
    have hsz:(w.setCell ⟨b,0,none⟩ (.pointer (some ⟨b,0,none⟩))).heap.size=w.heap.size:=by simp[World.setCell]
    rw[hown]at hnd
    have hn1:∀c,v1.ownBlock=some c→c≠b:=fun c hc e=>by
     subst e
     exact(List.nodup_cons.1 hnd).1 (by simp[hc])
    have hn2:∀c,v2.ownBlock=some c→c≠b:=fun c hc e=>by
     subst e
     exact(List.nodup_cons.1 hnd).1 (by simp[hc])
    refine hI.setObj (l:=0) (g:=g) (g':=g) (o:=.prn 5 b1 51 9 (List.map Redir.pv l2)) (o':=.prn 5 b1 51 9 (List.map Redir.pv l2)) rfl rfl (fun k hk hn=>hother k (fun e=>hn (by rw[hown,e];simp))) (by rw[hsz];exact Nat.le_refl _) rfl rfl rfl (fun _ _ h=>h) (fun _ _ h _ _=>h) (fun k j hk=>by rw[hsz];exact hI.phi k j hk)
     (fun k j hΦ hk=>?_) (fun k hk=>⟨.inl hk,by rw[hsz];exact(hI.own 0 g rfl k hk).2⟩) (.inl rfl) (fun _ _ _ h=>by cases h) (fun hE=>?_)
    ·have hkb:k≠b:=fun e=>h1 j (e▸hΦ)
     exact cell_of_heap (hother k hkb)
    refine⟨b,_,v1,v2,hv,hown,by rw[hown];exact hnd,hhere,.inr rfl,h1,⟨h2.1,h2.2.imp id fun⟨c,cap,cur,fz,hv,hb0,hb,r⟩=>⟨c,cap,cur,fz,hv,hb0,(hother c (hn1 c (by rw[hv];rfl))).trans hb,r⟩⟩,h3,?_⟩
    exact h4.keep hE.phi hE.cell (fun c hc=>hother c (hn2 c (by simpa using hc))) (fun c hc k hk=>hk)
   refine(X0y b w (by simp[World.cell?,hheap])).mono ?_
   rintro e w' ⟨rfl,rfl⟩
   exact⟨[],[g],Φ,rfl,.refl hI,rfl,fun i v a hv=>by simp at hv⟩
set_option maxHeartbeats 2000000 in
set_option maxRecDepth 100000 in
theorem X7x(b:Nat)(w:World)(c0:w.cell? ⟨b,1,none⟩=some (.slice none 0 0)):
 Calls Tryz.prog 36 #[.pointer (some ⟨b,0,none⟩)] w fun e w'=>e=.returned (.string ⟨#[]⟩)∧Below w.heap.size w w':=by
 have hUS:∀ (W:World) (q:Option Addr),(Builtin.unsafeString_ #[96,3] 9 #[.pointer q,.int .i64 0]).run Tryz.prog W=.ok (.string .empty) W:=fun W q=>Lib.run_unsafeString_none W _ _ _ q
 have c1:w.drew.cell? ⟨b,1,none⟩=some (.slice none 0 0):=c0
 have hSD:(Builtin.unsafeSliceData_ #[58] 96 #[.slice none 0 0]).run Tryz.prog w.drew=.ok (.pointer none) w.drew:=rfl
 go_enter Tryz.func36,Tryz.ntmps36
 go_wp2
 go_region
 all_goals(go_wp2;go_ret;exact⟨rfl,Below.drew (Below.refl _ w)⟩)
set_option maxHeartbeats 2000000 in
set_option maxRecDepth 100000 in
theorem X3k(b g cap:Nat)(w:World)(hc:cap≠0)(c0:w.cell? ⟨b,1,none⟩=some (.slice (some ⟨g,0,none⟩) 0 cap)):
 Calls Tryz.prog 36 #[.pointer (some ⟨b,0,none⟩)] w fun e w'=>e=.returned (.string ⟨#[]⟩)∧Below w.heap.size w w':=by
 have hUS:∀ (W:World) (q:Option Addr),(Builtin.unsafeString_ #[96,3] 9 #[.pointer q,.int .i64 0]).run Tryz.prog W=.ok (.string .empty) W:=fun W q=>Lib.run_unsafeString_none W _ _ _ q
 have c1:w.drew.cell? ⟨b,1,none⟩=some (.slice (some ⟨g,0,none⟩) 0 cap):=c0
 have hSD:(Builtin.unsafeSliceData_ #[58] 96 #[.slice (some ⟨g,0,none⟩) 0 cap]).run Tryz.prog w.drew=.ok (.pointer (some ⟨g,0,none⟩)) w.drew:=Lib.run_unsafeSliceData_row _ _ _ _ _ _ hc
 clear hc
 go_enter Tryz.func36,Tryz.ntmps36
 go_wp2
 go_region
 all_goals(go_wp2;go_ret;exact⟨rfl,Below.drew (Below.refl _ w)⟩)
set_option maxHeartbeats 2000000 in
set_option maxRecDepth 100000 in
theorem J5z(b g:Nat)(cs:Array Value)(T:TypeId)(cur:Array Value)(fz:Nat×Nat)(v:Value)(w:World)(hv:v=.slice (some ⟨g,0,none⟩) 0 0)(hbk:w.heap[b]?=some (.cells cs T (0,0)))(hcs:cs[1]?=some v)(hg:w.heap[g]?=some (.cells cur 5 fz)):
 Calls Tryz.prog 36 #[.pointer (some ⟨b,0,none⟩)] w fun e w'=>e=.returned (.string ⟨#[]⟩)∧Below w.heap.size w w':=by
 subst hv
 have hUS:∀ (W:World) (q:Option Addr),(Builtin.unsafeString_ #[96,3] 9 #[.pointer q,.int .i64 0]).run Tryz.prog W=.ok (.string .empty) W:=fun W q=>Lib.run_unsafeString_none W _ _ _ q
 have hlt:b<w.heap.size:=(Array.getElem?_eq_some_iff.1 hbk).1
 have c1:w.drew.cell? ⟨b,1,none⟩=some (.slice (some ⟨g,0,none⟩) 0 0):=by
  have:w.drew.heap[b]?=some (.cells cs T (0,0)):=hbk
  rw[Lib.cell_of_heap this];exact hcs
 have hSD:(Builtin.unsafeSliceData_ #[58] 96 #[.slice (some ⟨g,0,none⟩) 0 0]).run Tryz.prog w.drew=.ok (.pointer (some ⟨w.drew.heap.size,0,none⟩)) (w.drew.alloc (.view ⟨g,0,none⟩ 5)):=
  Lib.run_unsafeSliceData_zero w.drew _ _ 5 Tryz.underlying96 ⟨g,0,none⟩ 0 (5,cur.size) (by have hg':w.drew.heap[g]?=some (.cells cur 5 fz):=hg;simp[World.shape?,hg'])
 have c2:(w.drew.alloc (.view ⟨g,0,none⟩ 5)).cell? ⟨b,1,none⟩=some (.slice (some ⟨g,0,none⟩) 0 0):=by
  have:(w.drew.alloc (.view ⟨g,0,none⟩ 5)).heap[b]?=_:=(Lib.alloc_old w.drew _ b hlt).trans hbk
  rw[Lib.cell_of_heap this];exact hcs
 have c3:(w.alloc (.view ⟨g,0,none⟩ 5)).drew.cell? ⟨b,1,none⟩=some (.slice (some ⟨g,0,none⟩) 0 0):=c2
 have c0:w.cell? ⟨b,1,none⟩=some (.slice (some ⟨g,0,none⟩) 0 0):=c1
 clear hbk hcs hg
 go_enter Tryz.func36,Tryz.ntmps36
 go_wp2
 go_region
 all_goals(go_wp2;go_ret;exact⟨rfl,(Below.drew (Below.refl _ w)).alloc (Nat.le_refl _) _⟩)
theorem V6k(c:AllG env []):Q0a env S36:=by
 refine⟨?_,Tryz.f36,X9u,rfl,by kernel_rfl⟩
 rintro⟨b1,l2⟩ r h
 have h:some b1=some r:=h
 cases h
 show Good env 36 [.ref 0 0] [.prn 5 b1 51 9 (List.map Redir.pv l2)] [.pv (.str b1)] [.prn 5 b1 51 9 (List.map Redir.pv l2)]
 cases b1 with
 | nil=>
   intro w Φ γ cargs hI hl hr
   match cargs,hl with
   | [c0],_=>
     obtain⟨g,b,v0,v1,v2,rfl,rfl,hv,hown,hnd,hheap,hp,h1,h2,h3,h4⟩:=J9h hI (hr 0 c0 _ rfl rfl)
     have fin:∀e w',e=Ending.returned (.string ⟨#[]⟩)∧Below w.heap.size w w'→∃vs γ' Φ',e=.returned (retV vs)∧Ok env [g] [.prn 5 [] 51 9 (List.map Redir.pv l2)] Φ w γ' [.prn 5 [] 51 9 (List.map Redir.pv l2)] Φ' w'∧vs.length=[AV.pv (.str [])].length∧∀ (i:Nat) v a,vs[i]?=some v→[AV.pv (.str [])][i]?=some a→ARel γ' [.prn 5 [] 51 9 (List.map Redir.pv l2)] Φ' w' v a:=by
      rintro e w' ⟨rfl,hb⟩
      refine⟨[.string ⟨#[]⟩],[g],Φ,rfl,hI.grow hb.block hb.size hb.os hb.tape hb.output (fun _ _ h=>h) (fun _ _ h _=>h) (fun b k h=>Nat.lt_of_lt_of_le (hI.phi b k h) hb.size),rfl,fun i v a hv ha=>?_⟩
      match i,hv,ha with
      | 0,hv,ha=>
        cases hv
        cases ha
        exact .pv (.str [])
     have c1:w.cell? ⟨b,1,none⟩=some v1:=by simp[World.cell?,hheap]
     rcases h2.2 with⟨rfl,_⟩|⟨g',cap,cur,fz,rfl,_,hg,_,_,_,_,_⟩
     ·exact(X7x b w c1).mono fin
     by_cases hc0:cap=0
     ·subst hc0
      exact(J5z b g' _ _ cur fz _ w rfl hheap rfl hg).mono fin
     exact(X3k b g' cap w hc0 c1).mono fin
 | cons x b2=>
   obtain⟨O,X,hS,hX,hpf,hk⟩:=orcs (pf:=pfn) c
   have hne:(x::b2).isEmpty=false:=rfl
   generalize hb:x::b2=b1 at hne ⊢
   clear hb
   refine J3a.startE (out:=.ret _ _) X9u rfl (by decide) [] rfl ?_
   rw[Z4j]
   show AW env 1 _ (retB env Tryz.f36 1 [] [.prn 5 b1 51 9 (List.map Redir.pv l2)] (.ret [.pv (.str b1)] [.prn 5 b1 51 9 (List.map Redir.pv l2)])) ⟨sl [(0,.ref 0 0)],14,[.prn 5 b1 51 9 (List.map Redir.pv l2)]⟩
   refine AW.seq ?_
   apply AW.rg hS [0]
   ·exact di
   refine AW.seq ?_
   refine AW.weak (Weak.explode 0 rfl) ?_
   refine AW.weak (σ':=⟨sl [(0,.ref 0 0)],14,[.var [.selfp 0,.vec 1 (List.length b1),.vec 2 (List.length l2)],.brow 5 b1,.row 51 9 (List.map Redir.pv l2) true]⟩) (Weak.of_eq (Weak.slots (L:=[(0,.ref 0 0)]) ⟨rfl,trivial⟩) (by first|rfl|(simp only[List.length_map];rfl))) ?_
   refine AW.after ?_
   refine AW.dregV mixed hS [10] [(0,0),(1,0),(2,0),(3,0),(4,0),(5,0),(6,0),(7,0),(8,0),(9,0),(10,0),(11,1)] [.ref 0 0,.ref 0 0,.ref 0 1,.vec 1 (List.length b1),.vptr 1 (List.length b1) 0 0,.ref 0 0,.ref 0 0,.ref 0 1,.vec 1 (List.length b1),.pv (.int .i64 (b1.length:Int)),.pv (.str b1),.pv (.str b1)] [[.var [.selfp 0,.vec 1 (List.length b1),.vec 2 (List.length l2)],.brow 5 b1,.row 51 9 (List.map Redir.pv l2) true],[.var [.selfp 0,.vec 1 (List.length b1),.vec 2 (List.length l2)],.brow 5 b1,.row 51 9 (List.map Redir.pv l2) true]] [(3,.ref 0 0),(4,.ref 0 0),(5,.ref 0 1),(6,.vec 1 (List.length b1)),(7,.vptr 1 (List.length b1) 0 0),(8,.ref 0 0),(9,.ref 0 0),(10,.ref 0 1),(11,.vec 1 (List.length b1)),(12,.pv (.int .i64 (b1.length:Int))),(13,.pv (.str b1)),(2,.pv (.str b1)),(0,.ref 0 0)] (by kernel_rfl) (by kernel_rfl) (by kernel_rfl) ?_ [(2,.pv (.str b1))] [.var [.selfp 0,.vec 1 (List.length b1),.vec 2 (List.length l2)],.brow 5 b1,.row 51 9 (List.map Redir.pv l2) true] ⟨rfl,trivial⟩ rfl ?_
   ·repeat'(first|exact Q3z.nil|refine Q3z.cons rfl rfl rfl ?_ ?_)
    all_goals simp -implicitDefEqProofs only[RUNS,Q1b,Nat.reduceAdd,Nat.reduceLeDiff,Nat.reduceSub,reduceIte,Nat.reduceEqDiff,Nat.reduceLT,reduceCtorEq,Nat.reduceMul,Nat.reduceBEq,Int.reduceEq,Int.reduceToNat,Int.toNat_zero,Nat.sub_zero,if_true,if_false,eq_self,ne_eq,Q1w,gdec,List.getD_cons_zero,List.getD_cons_succ,List.contains_cons,List.contains_nil,Bool.false_eq_true,bq1,bq2,TYS,T_96,T_5,T_58,T_60,T_3,T_9,Z6e.eq_1,J6j.eq_1,hne]
   refine⟨⟨sl [(2,.pv (.str b1))],14,[.prn 5 b1 51 9 (List.map Redir.pv l2),.moved 5 1 (List.length b1),.moved 51 9 (List.length l2)]⟩,(Weak.trans (Weak.implode 0 1 2 rfl rfl rfl rfl (by first|rfl|simp only[List.length_map])) (Weak.of_eq (σ'':=⟨sl [(2,.pv (.str b1))],14,[.prn 5 b1 51 9 (List.map Redir.pv l2),.moved 5 1 (List.length b1),.moved 51 9 (List.length l2)]⟩) (Weak.slots (L:=[(2,.pv (.str b1))]) ⟨rfl,trivial⟩) (by first|rfl|(simp only[List.length_map];rfl)))),?_⟩
   refine AW.ret ?_
   exact fin
end Go.Abs.U48
