import Derived.Test.YtljahlbklgnfhaaGreatDoorD1
import Derived.Test.YtljahlbklgnfhaaGreatDoorA63
import Derived.Tactics
import Derived.Tactics2
import Derived.RegionTactic
import Derived.Shelf.Lay
import Derived.Shelf.Strings.Builder1
set_option linter.unusedVariables false
set_option linter.unusedSimpArgs false
namespace Go.Abs.U48
open Go Go.RowKit Go.Proofs
theorem X1z{γ:List Gh}{Φ:Nat->Nat->Prop}{w:World}{a d:TypeId}{s:Str}{sz:Nat}{xs:List PV}(e:OInv env γ [.prn a s d sz xs] Φ w){c:Value}(h:ARel γ [.prn a s d sz xs] Φ w c (.ref 0 0)):
 ∃g b v0 v1 v2,γ=[g]/\c=.pointer (some ⟨b,0,none⟩)/\g.v=.pointer (some ⟨b,0,none⟩)/\g.own=b::(v1.ownBlock.toList++v2.ownBlock.toList)/\g.own.Nodup/\w.heap[b]?=some (.cells ⟨[v0,v1,v2]⟩ 62 (0,0))/\
  (v0=.pointer none\/v0=.pointer (some ⟨b,0,none⟩))/\(∀k,¬ Φ b k)/\w.ownsRowF 0 a 1 v1 s.length (s.map λu=>Value.int .u8 u.toNat)/\(∀c,v1.ownBlock=some c->∀k,¬ Φ c k)/\Q9y Φ w d sz xs true ⟨v2,v2.ownBlock.toList⟩:=by
 have i:γ.length=1:=e.len
 match γ,i with
 | [g],_=>
   obtain⟨b,v0,v1,v2,f,j,m,n,o,p,q,r,t⟩:=e.obj 0 _ g rfl rfl
   cases h with
   | ref b' l off x=>
     have:g.v=.pointer (some ⟨b',0,none⟩):=by simpa[gv]using x
     rw[f]at this
     injection this with this
     injection this with this
     injection this with this
     subst this
     exact⟨g,b,v0,v1,v2,rfl,rfl,f,j,m,n,o,p,q,r,t⟩
set_option maxHeartbeats 1000000 in
set_option maxRecDepth 100000 in
theorem X4c(b:Nat)(w:World)(d:w.cell? ⟨b,0,none⟩=some (.pointer (some ⟨b,0,none⟩))):
 Calls Tryz.prog 163 #[.pointer (some ⟨b,0,none⟩)] w λe w'=>e=.returned (.tuple #[])/\w'=w:=by
 obtain⟨j,a,f⟩:=G0g.1 (show(Tryz.prog.info? 60).map (·.size)=some 2 from by kernel_rfl)
 go_enter Tryz.func163,Tryz.ntmps163
 go_wp2
 rw[Lib.run_neq_ptr_same w _ Tryz.underlying57 a]
 go_wp2
 go_end0
 exact⟨rfl,rfl⟩
set_option maxHeartbeats 1000000 in
set_option maxRecDepth 100000 in
theorem J9v(b:Nat)(w:World)(g:w.cell? ⟨b,0,none⟩=some (.pointer none))(a:w.shape? b=some (62,3))(i:w.frozen? ⟨b,0,none⟩=false):
 Calls Tryz.prog 163 #[.pointer (some ⟨b,0,none⟩)] w λe w'=>e=.returned (.tuple #[])/\w'=w.setCell ⟨b,0,none⟩ (.pointer (some ⟨b,0,none⟩)):=by
 obtain⟨j,d,f⟩:=G0g.1 (show(Tryz.prog.info? 60).map (·.size)=some 2 from by kernel_rfl)
 go_enter Tryz.func163,Tryz.ntmps163
 go_wp2
 rw[Lib.run_to_unsafe w ⟨b,0,none⟩ Tryz.underlying57 Tryz.underlying164 d (by rw[f];decide) a (Nat.zero_lt_succ 2)]
 simp only[Result.andThen]
 rw[Oper.upon_value]
 go_wp2
 rw[run_callFunc_extern Tryz.func196 (by kernel_rfl) (by kernel_rfl) (by kernel_rfl) (e:=Extern.AbiNoEscape.same) (by kernel_rfl)]
 rw[Lib.run_noEscape]
 simp only[Result.andThen]
 rw[Oper.upon_value]
 go_wp2
 rw[Lib.run_from_unsafe w ⟨b,0,none⟩ Tryz.underlying164 Tryz.underlying57 d a (by kernel_rfl)]
 simp only[Result.andThen]
 rw[Oper.upon_value]
 go_wp2
 go_end0
 exact⟨rfl,rfl⟩
theorem K9x(_c:AllG env []):Q0c env S163:=by
 refine⟨?_,Tryz.f163,V4j,rfl,by kernel_rfl⟩
 rintro⟨p,q⟩ r h
 show Good env 163 [.ref 0 0] [.prn 5 p 51 9 (List.map Redir.pv q)] [] [.prn 5 p 51 9 (List.map Redir.pv q)]
 intro w Φ γ C n D E
 match C,D with
 | [c0],_=>
   obtain⟨g,b,v0,v1,v2,rfl,rfl,d,s,t,f,F,y,z,H,I⟩:=X1z n (E 0 c0 _ rfl rfl)
   have S:b<w.heap.size:=(G1b.1 f).1
   rcases F with rfl|rfl
   ·refine(J9v b w (by simp[World.cell?,f]) (by simp[World.shape?,f]) (by simp[World.frozen?,f])).mono ?_
    rintro e w' ⟨rfl,rfl⟩
    refine⟨[],[g],Φ,rfl,?_,rfl,λi v a d=>by simp at d⟩
    have u:∀k,k≠b->(w.setCell ⟨b,0,none⟩ (.pointer (some ⟨b,0,none⟩))).heap[k]?=w.heap[k]?:=λk hk=>Below.heap_setCell _ _ _ _ (λe=>hk e)
    have J:(w.setCell ⟨b,0,none⟩ (.pointer (some ⟨b,0,none⟩))).heap[b]?=some (.cells ⟨[.pointer (some ⟨b,0,none⟩),v1,v2]⟩ 62 (0,0)):=by
     simp[World.setCell,G3s,f]
    have x:(w.setCell ⟨b,0,none⟩ (.pointer (some ⟨b,0,none⟩))).heap.size=w.heap.size:=by simp[World.setCell]
    rw[s]at t
    have K:∀c,v1.ownBlock=some c->c≠b:=λc m e=>by
     subst e
     exact(G4i.1 t).1 (by simp[m])
    have L:∀c,v2.ownBlock=some c->c≠b:=λc m e=>by
     subst e
     exact(G4i.1 t).1 (by simp[m])
    refine n.setObj (l:=0) (g:=g) (g':=g) (o:=.prn 5 p 51 9 (List.map Redir.pv q)) (o':=.prn 5 p 51 9 (List.map Redir.pv q)) rfl rfl (λk hk M=>u k (λe=>M (by rw[s,e];simp))) (by rw[x];exact G0o _) rfl rfl rfl (λ_ _ h=>h) (λ_ _ h _ _=>h) (λk j hk=>by rw[x];exact n.phi k j hk)
     (λk j N hk=>?_) (λk hk=>⟨.inl hk,by rw[x];exact(n.own 0 g rfl k hk).2⟩) (.inl rfl) (λ_ _ _ h=>by cases h) (λA=>?_)
    ·have O:k≠b:=λe=>y j (e▸N)
     exact cell_of_heap (u k O)
    refine⟨b,_,v1,v2,d,s,by rw[s];exact t,J,.inr rfl,y,⟨z.1,z.2.imp id λ⟨c,cap,P,fz,d,Q,hb,r⟩=>⟨c,cap,P,fz,d,Q,(u c (K c (by rw[d];rfl))).trans hb,r⟩⟩,H,?_⟩
    exact I.keep A.phi A.cell (λc m=>u c (L c (by simpa using m))) (λc m k hk=>hk)
   refine(X4c b w (by simp[World.cell?,f])).mono ?_
   rintro e w' ⟨rfl,rfl⟩
   exact⟨[],[g],Φ,rfl,.refl n,rfl,λi v a d=>by simp at d⟩
set_option maxHeartbeats 2000000 in
set_option maxRecDepth 100000 in
theorem K1n(b:Nat)(w:World)(c0:w.cell? ⟨b,1,none⟩=some (.slice none 0 0)):
 Calls Tryz.prog 36 #[.pointer (some ⟨b,0,none⟩)] w λe w'=>e=.returned (.string ⟨#[]⟩)/\Below w.heap.size w w':=by
 have a:∀ (W:World) (q:Option Addr),(Builtin.unsafeString_ #[96,3] 9 #[.pointer q,.int .i64 0]).run Tryz.prog W=.ok (.string .empty) W:=λW q=>Lib.run_unsafeString_none W _ _ _ q
 have d:w.drew.cell? ⟨b,1,none⟩=some (.slice none 0 0):=c0
 have f:(Builtin.unsafeSliceData_ #[58] 96 #[.slice none 0 0]).run Tryz.prog w.drew=.ok (.pointer none) w.drew:=rfl
 go_enter Tryz.func36,Tryz.ntmps36
 go_wp2
 go_region
 all_goals(go_wp2;go_ret;exact⟨rfl,Below.drew (Below.refl _ w)⟩)
set_option maxHeartbeats 2000000 in
set_option maxRecDepth 100000 in
theorem X6u(b g cap:Nat)(w:World)(a:cap≠0)(c0:w.cell? ⟨b,1,none⟩=some (.slice (some ⟨g,0,none⟩) 0 cap)):
 Calls Tryz.prog 36 #[.pointer (some ⟨b,0,none⟩)] w λe w'=>e=.returned (.string ⟨#[]⟩)/\Below w.heap.size w w':=by
 have d:∀ (W:World) (q:Option Addr),(Builtin.unsafeString_ #[96,3] 9 #[.pointer q,.int .i64 0]).run Tryz.prog W=.ok (.string .empty) W:=λW q=>Lib.run_unsafeString_none W _ _ _ q
 have f:w.drew.cell? ⟨b,1,none⟩=some (.slice (some ⟨g,0,none⟩) 0 cap):=c0
 have i:(Builtin.unsafeSliceData_ #[58] 96 #[.slice (some ⟨g,0,none⟩) 0 cap]).run Tryz.prog w.drew=.ok (.pointer (some ⟨g,0,none⟩)) w.drew:=Lib.run_unsafeSliceData_row _ _ _ _ _ _ a
 clear a
 go_enter Tryz.func36,Tryz.ntmps36
 go_wp2
 go_region
 all_goals(go_wp2;go_ret;exact⟨rfl,Below.drew (Below.refl _ w)⟩)
set_option maxHeartbeats 2000000 in
set_option maxRecDepth 100000 in
theorem J8p(b g:Nat)(cs:Array Value)(T:TypeId)(d:Array Value)(fz:Nat×Nat)(v:Value)(w:World)(j:v=.slice (some ⟨g,0,none⟩) 0 0)(a:w.heap[b]?=some (.cells cs T (0,0)))(f:cs[1]?=some v)(i:w.heap[g]?=some (.cells d 5 fz)):
 Calls Tryz.prog 36 #[.pointer (some ⟨b,0,none⟩)] w λe w'=>e=.returned (.string ⟨#[]⟩)/\Below w.heap.size w w':=by
 subst j
 have n:∀ (W:World) (q:Option Addr),(Builtin.unsafeString_ #[96,3] 9 #[.pointer q,.int .i64 0]).run Tryz.prog W=.ok (.string .empty) W:=λW q=>Lib.run_unsafeString_none W _ _ _ q
 have k:b<w.heap.size:=(G1b.1 a).1
 have l:w.drew.cell? ⟨b,1,none⟩=some (.slice (some ⟨g,0,none⟩) 0 0):=by
  have:w.drew.heap[b]?=some (.cells cs T (0,0)):=a
  rw[Lib.cell_of_heap this];exact f
 have o:(Builtin.unsafeSliceData_ #[58] 96 #[.slice (some ⟨g,0,none⟩) 0 0]).run Tryz.prog w.drew=.ok (.pointer (some ⟨w.drew.heap.size,0,none⟩)) (w.drew.alloc (.view ⟨g,0,none⟩ 5)):=
  Lib.run_unsafeSliceData_zero w.drew _ _ 5 Tryz.underlying96 ⟨g,0,none⟩ 0 (5,d.size) (by have m:w.drew.heap[g]?=some (.cells d 5 fz):=i;simp[World.shape?,m])
 have c2:(w.drew.alloc (.view ⟨g,0,none⟩ 5)).cell? ⟨b,1,none⟩=some (.slice (some ⟨g,0,none⟩) 0 0):=by
  have:(w.drew.alloc (.view ⟨g,0,none⟩ 5)).heap[b]?=_:=(Lib.alloc_old w.drew _ b k).trans a
  rw[Lib.cell_of_heap this];exact f
 have c3:(w.alloc (.view ⟨g,0,none⟩ 5)).drew.cell? ⟨b,1,none⟩=some (.slice (some ⟨g,0,none⟩) 0 0):=c2
 have c0:w.cell? ⟨b,1,none⟩=some (.slice (some ⟨g,0,none⟩) 0 0):=l
 clear a f i
 go_enter Tryz.func36,Tryz.ntmps36
 go_wp2
 go_region
 all_goals(go_wp2;go_ret;exact⟨rfl,(Below.drew (Below.refl _ w)).alloc (G0o _) _⟩)
theorem Y2b(c:AllG env []):Q0c env S36:=by
 refine⟨?_,Tryz.f36,K3q,rfl,by kernel_rfl⟩
 rintro⟨d,f⟩ r h
 have h:some d=some r:=h
 cases h
 show Good env 36 [.ref 0 0] [.prn 5 d 51 9 (List.map Redir.pv f)] [.pv (.str d)] [.prn 5 d 51 9 (List.map Redir.pv f)]
 cases d with
 | nil=>
   intro w Φ γ u l y z
   match u,y with
   | [c0],_=>
     obtain⟨g,b,v0,v1,v2,rfl,rfl,j,E,F,n,H,I,A,J,K⟩:=X1z l (z 0 c0 _ rfl rfl)
     have fin:∀e w',e=Ending.returned (.string ⟨#[]⟩)/\Below w.heap.size w w'->∃vs o Φ',e=.returned (retV vs)/\Ok env [g] [.prn 5 [] 51 9 (List.map Redir.pv f)] Φ w o [.prn 5 [] 51 9 (List.map Redir.pv f)] Φ' w'/\vs.length=[AV.pv (.str [])].length/\∀ (i:Nat) v a,vs[i]?=some v->[AV.pv (.str [])][i]?=some a->ARel o [.prn 5 [] 51 9 (List.map Redir.pv f)] Φ' w' v a:=by
      rintro e w' ⟨rfl,hb⟩
      refine⟨[.string ⟨#[]⟩],[g],Φ,rfl,l.grow hb.block hb.size hb.os hb.tape hb.output (λ_ _ h=>h) (λ_ _ h _=>h) (λb k h=>G1f (l.phi b k h) hb.size),rfl,λi v a j m=>?_⟩
      match i,j,m with
      | 0,j,m=>
        cases j
        cases m
        exact .pv (.str [])
     have p:w.cell? ⟨b,1,none⟩=some v1:=by simp[World.cell?,n]
     rcases A.2 with⟨rfl,_⟩|⟨g',cap,C,fz,rfl,_,D,_,_,_,_,_⟩
     ·exact(K1n b w p).mono fin
     by_cases q:cap=0
     ·subst q
      exact(J8p b g' _ _ C fz _ w rfl n rfl D).mono fin
     exact(X6u b g' cap w q p).mono fin
 | cons x s=>
   obtain⟨O,X,hS,hX,hpf,hk⟩:=orcs (pf:=pfn) c
   have t:(x::s).isEmpty=false:=rfl
   generalize hb:x::s=d at t |-
   clear hb
   refine J5p.startE (out:=.ret _ _) K3q rfl (by decide) [] rfl ?_
   rw[Z6f]
   show AW env 1 _ (retB env Tryz.f36 1 [] [.prn 5 d 51 9 (List.map Redir.pv f)] (.ret [.pv (.str d)] [.prn 5 d 51 9 (List.map Redir.pv f)])) ⟨sl [(0,.ref 0 0)],14,[.prn 5 d 51 9 (List.map Redir.pv f)]⟩
   refine AW.seq ?_
   apply AW.rg hS [0]
   ·exact di
   refine AW.seq ?_
   refine AW.weak (Weak.explode 0 rfl) ?_
   refine AW.weak (σ':=⟨sl [(0,.ref 0 0)],14,[.var [.selfp 0,.vec 1 (List.length d),.vec 2 (List.length f)],.brow 5 d,.row 51 9 (List.map Redir.pv f) true]⟩) (Weak.of_eq (Weak.slots (L:=[(0,.ref 0 0)]) ⟨rfl,trivial⟩) (by first|rfl|(simp only[G1m];rfl))) ?_
   refine AW.after ?_
   refine AW.dregV mixed hS [10] [(0,0),(1,0),(2,0),(3,0),(4,0),(5,0),(6,0),(7,0),(8,0),(9,0),(10,0),(11,1)] [.ref 0 0,.ref 0 0,.ref 0 1,.vec 1 (List.length d),.vptr 1 (List.length d) 0 0,.ref 0 0,.ref 0 0,.ref 0 1,.vec 1 (List.length d),.pv (.int .i64 (d.length:Int)),.pv (.str d),.pv (.str d)] [[.var [.selfp 0,.vec 1 (List.length d),.vec 2 (List.length f)],.brow 5 d,.row 51 9 (List.map Redir.pv f) true],[.var [.selfp 0,.vec 1 (List.length d),.vec 2 (List.length f)],.brow 5 d,.row 51 9 (List.map Redir.pv f) true]] [(3,.ref 0 0),(4,.ref 0 0),(5,.ref 0 1),(6,.vec 1 (List.length d)),(7,.vptr 1 (List.length d) 0 0),(8,.ref 0 0),(9,.ref 0 0),(10,.ref 0 1),(11,.vec 1 (List.length d)),(12,.pv (.int .i64 (d.length:Int))),(13,.pv (.str d)),(2,.pv (.str d)),(0,.ref 0 0)] (by kernel_rfl) (by kernel_rfl) (by kernel_rfl) ?_ [(2,.pv (.str d))] [.var [.selfp 0,.vec 1 (List.length d),.vec 2 (List.length f)],.brow 5 d,.row 51 9 (List.map Redir.pv f) true] ⟨rfl,trivial⟩ rfl ?_
   ·repeat'(first|exact Q4p.nil|refine Q4p.cons rfl rfl rfl ?_ ?_)
    all_goals simp -implicitDefEqProofs only[RUNS,Q1d,Nat.reduceAdd,Nat.reduceLeDiff,Nat.reduceSub,reduceIte,Nat.reduceEqDiff,Nat.reduceLT,reduceCtorEq,Nat.reduceMul,Nat.reduceBEq,Int.reduceEq,Int.reduceToNat,G1r,G2b,if_true,G2i,eq_self,ne_eq,Q2d,gdec,G4x,G5o,G4e,G5y,G2z,bq1,bq2,TYS,T_96,T_5,T_58,T_60,T_3,T_9,Z8d.eq_1,J8y.eq_1,t]
   refine⟨⟨sl [(2,.pv (.str d))],14,[.prn 5 d 51 9 (List.map Redir.pv f),.moved 5 1 (List.length d),.moved 51 9 (List.length f)]⟩,(Weak.trans (Weak.implode 0 1 2 rfl rfl rfl rfl (by first|rfl|simp only[G1m])) (Weak.of_eq (σ'':=⟨sl [(2,.pv (.str d))],14,[.prn 5 d 51 9 (List.map Redir.pv f),.moved 5 1 (List.length d),.moved 51 9 (List.length f)]⟩) (Weak.slots (L:=[(2,.pv (.str d))]) ⟨rfl,trivial⟩) (by first|rfl|(simp only[G1m];rfl)))),?_⟩
   refine AW.ret ?_
   exact fin
end Go.Abs.U48
