import Derived.Test.YtljahlbklgnfhaaGreatDoorD1
import Derived.Test.YtljahlbklgnfhaaGreatDoorA61
import Derived.Tactics
import Derived.Tactics2
import Derived.RegionTactic
import Derived.Shelf.Lay
import Derived.Shelf.Strings.Builder1
set_option linter.unusedVariables false
set_option linter.unusedSimpArgs false
namespace Go.Abs.U48
open Go Go.RowKit Go.Proofs
open Go.Proofs.Tryz
theorem X7t{γ:List Gh}{Φ:Nat->Nat->Prop}{w:World}{e f:TypeId}{s:Str}{sz:Nat}{xs:List PV}(i:OInv env γ [.prn e s f sz xs] Φ w){c:Value}(h:ARel γ [.prn e s f sz xs] Φ w c (.ref 0 0)):
 ∃g b d v1 a,γ=[g]/\c=.pointer (some ⟨b,0,none⟩)/\g.v=.pointer (some ⟨b,0,none⟩)/\g.own=b::(v1.ownBlock.toList++a.ownBlock.toList)/\g.own.Nodup/\w.heap[b]?=some (.cells ⟨[d,v1,a]⟩ 62 (0,0))/\
  (d=.pointer none\/d=.pointer (some ⟨b,0,none⟩))/\(∀k,¬ Φ b k)/\w.ownsRowF 0 e 1 v1 s.length (s.map λu=>Value.int .u8 u.toNat)/\(∀c,v1.ownBlock=some c->∀k,¬ Φ c k)/\J6y Φ w f sz xs true ⟨a,a.ownBlock.toList⟩:=by
 have m:γ.length=1:=i.len
 match γ,m with
 | [g],_=>
   obtain⟨b,d,v1,a,j,n,o,p,q,r,t,x,y⟩:=i.obj 0 _ g rfl rfl
   cases h with
   | ref b' l off z=>
     have:g.v=.pointer (some ⟨b',0,none⟩):=by simpa[gv]using z
     rw[j]at this
     injection this with this
     injection this with this
     injection this with this
     subst this
     exact⟨g,b,d,v1,a,rfl,rfl,j,n,o,p,q,r,t,x,y⟩
set_option maxHeartbeats 1000000 in
set_option maxRecDepth 100000 in
theorem K0b(b:Nat)(w:World)(d:w.cell? ⟨b,0,none⟩=some (.pointer (some ⟨b,0,none⟩))):
 Calls prog 163 #[.pointer (some ⟨b,0,none⟩)] w λe w'=>e=.returned (.tuple #[])/\w'=w:=by
 obtain⟨j,a,f⟩:=G0k.1 (show(prog.info? 60).map (·.size)=some 2 from by kernel_rfl)
 go_enter func163,Tryz.ntmps163
 go_wp2
 rw[Lib.run_neq_ptr_same w _ underlying57 a]
 go_wp2
 go_end0
 exact⟨rfl,rfl⟩
set_option maxHeartbeats 1000000 in
set_option maxRecDepth 100000 in
theorem X5f(b:Nat)(w:World)(g:w.cell? ⟨b,0,none⟩=some (.pointer none))(a:w.shape? b=some (62,3))(i:w.frozen? ⟨b,0,none⟩=false):
 Calls prog 163 #[.pointer (some ⟨b,0,none⟩)] w λe w'=>e=.returned (.tuple #[])/\w'=w.setCell ⟨b,0,none⟩ (.pointer (some ⟨b,0,none⟩)):=by
 obtain⟨j,d,f⟩:=G0k.1 (show(prog.info? 60).map (·.size)=some 2 from by kernel_rfl)
 go_enter func163,Tryz.ntmps163
 go_wp2
 rw[Lib.run_to_unsafe w ⟨b,0,none⟩ underlying57 underlying164 d (by rw[f];decide) a (Nat.zero_lt_succ 2)]
 simp only[Result.andThen]
 rw[G8t]
 go_wp2
 rw[run_callFunc_extern func196 (by kernel_rfl) (by kernel_rfl) (by kernel_rfl) (e:=Extern.AbiNoEscape.same) (by kernel_rfl)]
 rw[Lib.run_noEscape]
 simp only[Result.andThen]
 rw[G8t]
 go_wp2
 rw[Lib.run_from_unsafe w ⟨b,0,none⟩ underlying164 underlying57 d a (by kernel_rfl)]
 simp only[Result.andThen]
 rw[G8t]
 go_wp2
 go_end0
 exact⟨rfl,rfl⟩
theorem V9e(_c:AllG env []):Q0c env S163:=by
 refine⟨?_,Tryz.f163,(fnq func163),rfl,by kernel_rfl⟩
 rintro⟨p,q⟩ r h
 show Good env 163 [.ref 0 0] [.prn 5 p 51 9 (List.map Redir.pv q)] [] [.prn 5 p 51 9 (List.map Redir.pv q)]
 intro w Φ γ E n F H
 match E,F with
 | [c0],_=>
   obtain⟨g,b,U,v1,y,rfl,rfl,d,t,u,f,I,A,C,J,K⟩:=X7t n (H 0 c0 _ rfl rfl)
   have V:b<w.heap.size:=(G1r.1 f).1
   rcases I with rfl|rfl
   ·refine(X5f b w (by simp[World.cell?,f]) (by simp[World.shape?,f]) (by simp[World.frozen?,f])).mono ?_
    rintro e w' ⟨rfl,rfl⟩
    refine⟨[],[g],Φ,rfl,?_,rfl,λi v a d=>by simp at d⟩
    have x:∀k,k≠b->(w.setCell ⟨b,0,none⟩ (.pointer (some ⟨b,0,none⟩))).heap[k]?=w.heap[k]?:=λk hk=>Below.heap_setCell _ _ _ _ (λe=>hk e)
    have L:(w.setCell ⟨b,0,none⟩ (.pointer (some ⟨b,0,none⟩))).heap[b]?=some (.cells ⟨[.pointer (some ⟨b,0,none⟩),v1,y]⟩ 62 (0,0)):=by
     simp[World.setCell,G4g,f]
    have z:(w.setCell ⟨b,0,none⟩ (.pointer (some ⟨b,0,none⟩))).heap.size=w.heap.size:=by simp[World.setCell]
    rw[t]at u
    have M:∀c,v1.ownBlock=some c->c≠b:=λc m e=>by
     subst e
     exact(G5r.1 u).1 (by simp[m])
    have N:∀c,y.ownBlock=some c->c≠b:=λc m e=>by
     subst e
     exact(G5r.1 u).1 (by simp[m])
    refine n.setObj (l:=0) (g:=g) (g':=g) (o:=.prn 5 p 51 9 (List.map Redir.pv q)) (o':=.prn 5 p 51 9 (List.map Redir.pv q)) rfl rfl (λk hk O=>x k (λe=>O (by rw[t,e];simp))) (by rw[z];exact G0r _) rfl rfl rfl (λ_ _ h=>h) (λ_ _ h _ _=>h) (λk j hk=>by rw[z];exact n.phi k j hk)
     (λk j P hk=>?_) (λk hk=>⟨.inl hk,by rw[z];exact(n.own 0 g rfl k hk).2⟩) (.inl rfl) (λ_ _ _ h=>by cases h) (λD=>?_)
    ·have Q:k≠b:=λe=>A j (e▸P)
     exact cell_of_heap (x k Q)
    refine⟨b,_,v1,y,d,t,by rw[t];exact u,L,.inr rfl,A,⟨C.1,C.2.imp id λ⟨c,cap,S,fz,d,T,hb,r⟩=>⟨c,cap,S,fz,d,T,(x c (M c (by rw[d];rfl))).trans hb,r⟩⟩,J,?_⟩
    exact K.keep D.phi D.cell (λc m=>x c (N c (by simpa using m))) (λc m k hk=>hk)
   refine(K0b b w (by simp[World.cell?,f])).mono ?_
   rintro e w' ⟨rfl,rfl⟩
   exact⟨[],[g],Φ,rfl,.refl n,rfl,λi v a d=>by simp at d⟩
set_option maxHeartbeats 2000000 in
set_option maxRecDepth 100000 in
theorem K9d(b:Nat)(w:World)(c0:w.cell? ⟨b,1,none⟩=some (.slice none 0 0)):
 Calls prog 36 #[.pointer (some ⟨b,0,none⟩)] w λe w'=>e=.returned (.string ⟨#[]⟩)/\Below w.heap.size w w':=by
 have a:∀ (W:World) (q:Option Addr),(Builtin.unsafeString_ #[96,3] 9 #[.pointer q,.int .i64 0]).run prog W=.ok (.string .empty) W:=λW q=>G5n W _ _ _ q
 have d:w.drew.cell? ⟨b,1,none⟩=some (.slice none 0 0):=c0
 have f:(Builtin.unsafeSliceData_ #[58] 96 #[.slice none 0 0]).run prog w.drew=.ok (.pointer none) w.drew:=rfl
 go_enter func36,Tryz.ntmps36
 go_wp2
 go_region
 all_goals(go_wp2;go_ret;exact⟨rfl,Below.drew (Below.refl _ w)⟩)
set_option maxHeartbeats 2000000 in
set_option maxRecDepth 100000 in
theorem K3f(b g cap:Nat)(w:World)(a:cap≠0)(c0:w.cell? ⟨b,1,none⟩=some (.slice (some ⟨g,0,none⟩) 0 cap)):
 Calls prog 36 #[.pointer (some ⟨b,0,none⟩)] w λe w'=>e=.returned (.string ⟨#[]⟩)/\Below w.heap.size w w':=by
 have d:∀ (W:World) (q:Option Addr),(Builtin.unsafeString_ #[96,3] 9 #[.pointer q,.int .i64 0]).run prog W=.ok (.string .empty) W:=λW q=>G5n W _ _ _ q
 have f:w.drew.cell? ⟨b,1,none⟩=some (.slice (some ⟨g,0,none⟩) 0 cap):=c0
 have i:(Builtin.unsafeSliceData_ #[58] 96 #[.slice (some ⟨g,0,none⟩) 0 cap]).run prog w.drew=.ok (.pointer (some ⟨g,0,none⟩)) w.drew:=G6c _ _ _ _ _ _ a
 clear a
 go_enter func36,Tryz.ntmps36
 go_wp2
 go_region
 all_goals(go_wp2;go_ret;exact⟨rfl,Below.drew (Below.refl _ w)⟩)
set_option maxHeartbeats 2000000 in
set_option maxRecDepth 100000 in
theorem X3u(b g:Nat)(cs:Array Value)(T:TypeId)(d:Array Value)(fz:Nat×Nat)(v:Value)(w:World)(j:v=.slice (some ⟨g,0,none⟩) 0 0)(a:w.heap[b]?=some (.cells cs T (0,0)))(f:cs[1]?=some v)(i:w.heap[g]?=some (.cells d 5 fz)):
 Calls prog 36 #[.pointer (some ⟨b,0,none⟩)] w λe w'=>e=.returned (.string ⟨#[]⟩)/\Below w.heap.size w w':=by
 subst j
 have o:∀ (W:World) (q:Option Addr),(Builtin.unsafeString_ #[96,3] 9 #[.pointer q,.int .i64 0]).run prog W=.ok (.string .empty) W:=λW q=>G5n W _ _ _ q
 have l:b<w.heap.size:=(G1r.1 a).1
 have m:w.drew.cell? ⟨b,1,none⟩=some (.slice (some ⟨g,0,none⟩) 0 0):=by
  have:w.drew.heap[b]?=some (.cells cs T (0,0)):=a
  rw[G3s this];exact f
 have p:(Builtin.unsafeSliceData_ #[58] 96 #[.slice (some ⟨g,0,none⟩) 0 0]).run prog w.drew=.ok (.pointer (some ⟨w.drew.heap.size,0,none⟩)) (w.drew.alloc (.view ⟨g,0,none⟩ 5)):=
  Lib.run_unsafeSliceData_zero w.drew _ _ 5 underlying96 ⟨g,0,none⟩ 0 (5,d.size) (by have n:w.drew.heap[g]?=some (.cells d 5 fz):=i;simp[World.shape?,n])
 have c2:(w.drew.alloc (.view ⟨g,0,none⟩ 5)).cell? ⟨b,1,none⟩=some (.slice (some ⟨g,0,none⟩) 0 0):=by
  have:(w.drew.alloc (.view ⟨g,0,none⟩ 5)).heap[b]?=_:=(G8i w.drew _ b l).trans a
  rw[G3s this];exact f
 have r:(w.alloc (.view ⟨g,0,none⟩ 5)).drew.cell? ⟨b,1,none⟩=some (.slice (some ⟨g,0,none⟩) 0 0):=c2
 have c0:w.cell? ⟨b,1,none⟩=some (.slice (some ⟨g,0,none⟩) 0 0):=m
 clear a f i
 go_enter func36,Tryz.ntmps36
 go_wp2
 go_region
 all_goals(go_wp2;go_ret;exact⟨rfl,(Below.drew (Below.refl _ w)).alloc (G0r _) _⟩)
theorem Y7c(c:AllG env []):Q0c env S36:=by
 refine⟨?_,Tryz.f36,V1t,rfl,by kernel_rfl⟩
 rintro⟨d,f⟩ r h
 have h:some d=some r:=h
 cases h
 show Good env 36 [.ref 0 0] [.prn 5 d 51 9 (List.map Redir.pv f)] [.pv (.str d)] [.prn 5 d 51 9 (List.map Redir.pv f)]
 cases d with
 | nil=>
   intro w Φ γ y l z A
   match y,z with
   | [c0],_=>
     obtain⟨g,b,F,v1,H,rfl,rfl,j,I,J,n,K,M,C,N,P⟩:=X7t l (A 0 c0 _ rfl rfl)
     have fin:∀e w',e=Ending.returned (.string ⟨#[]⟩)/\Below w.heap.size w w'->∃vs o Φ',e=.returned (retV vs)/\Ok env [g] [.prn 5 [] 51 9 (List.map Redir.pv f)] Φ w o [.prn 5 [] 51 9 (List.map Redir.pv f)] Φ' w'/\vs.length=[AV.pv (.str [])].length/\∀ (i:Nat) v a,vs[i]?=some v->[AV.pv (.str [])][i]?=some a->ARel o [.prn 5 [] 51 9 (List.map Redir.pv f)] Φ' w' v a:=by
      rintro e w' ⟨rfl,hb⟩
      refine⟨[.string ⟨#[]⟩],[g],Φ,rfl,l.grow hb.block hb.size hb.os hb.tape hb.output (λ_ _ h=>h) (λ_ _ h _=>h) (λb k h=>G1m (l.phi b k h) hb.size),rfl,λi v a j m=>?_⟩
      match i,j,m with
      | 0,j,m=>
        cases j
        cases m
        exact .pv (.str [])
     have p:w.cell? ⟨b,1,none⟩=some v1:=by simp[World.cell?,n]
     rcases C.2 with⟨rfl,_⟩|⟨g',cap,D,fz,rfl,_,E,_,_,_,_,_⟩
     ·exact(K9d b w p).mono fin
     by_cases q:cap=0
     ·subst q
      exact(X3u b g' _ _ D fz _ w rfl n rfl E).mono fin
     exact(K3f b g' cap w q p).mono fin
 | cons x t=>
   obtain⟨O,X,hS,hX,hpf,hk⟩:=orcs (pf:=pfn) c
   have u:(x::t).isEmpty=false:=rfl
   generalize hb:x::t=d at u |-
   clear hb
   refine J9n.startE (out:=.ret _ _) V1t rfl (by decide) [] rfl ?_
   rw[Z8o]
   show AW env 1 _ (retB env Tryz.f36 1 [] [.prn 5 d 51 9 (List.map Redir.pv f)] (.ret [.pv (.str d)] [.prn 5 d 51 9 (List.map Redir.pv f)])) ⟨sl [(0,.ref 0 0)],14,[.prn 5 d 51 9 (List.map Redir.pv f)]⟩
   refine AW.seq ?_
   apply AW.rg hS [0]
   ·exact di
   refine AW.seq ?_
   refine AW.weak (Weak.explode 0 rfl) ?_
   refine AW.weak (σ':=⟨sl [(0,.ref 0 0)],14,[.var [.selfp 0,.vec 1 (List.length d),.vec 2 (List.length f)],.brow 5 d,.row 51 9 (List.map Redir.pv f) true]⟩) (Weak.of_eq (Wq0 (L:=[(0,.ref 0 0)]) ⟨rfl,trivial⟩) (by first|rfl|(simp only[G1h];rfl))) ?_
   refine AW.after ?_
   refine AW.dregV mixed hS [10] [(0,0),(1,0),(2,0),(3,0),(4,0),(5,0),(6,0),(7,0),(8,0),(9,0),(10,0),(11,1)] [.ref 0 0,.ref 0 0,.ref 0 1,.vec 1 (List.length d),.vptr 1 (List.length d) 0 0,.ref 0 0,.ref 0 0,.ref 0 1,.vec 1 (List.length d),.pv (.int .i64 (d.length:Int)),.pv (.str d),.pv (.str d)] [[.var [.selfp 0,.vec 1 (List.length d),.vec 2 (List.length f)],.brow 5 d,.row 51 9 (List.map Redir.pv f) true],[.var [.selfp 0,.vec 1 (List.length d),.vec 2 (List.length f)],.brow 5 d,.row 51 9 (List.map Redir.pv f) true]] [(3,.ref 0 0),(4,.ref 0 0),(5,.ref 0 1),(6,.vec 1 (List.length d)),(7,.vptr 1 (List.length d) 0 0),(8,.ref 0 0),(9,.ref 0 0),(10,.ref 0 1),(11,.vec 1 (List.length d)),(12,.pv (.int .i64 (d.length:Int))),(13,.pv (.str d)),(2,.pv (.str d)),(0,.ref 0 0)] (by kernel_rfl) (by kernel_rfl) (by kernel_rfl) ?_ [(2,.pv (.str d))] [.var [.selfp 0,.vec 1 (List.length d),.vec 2 (List.length f)],.brow 5 d,.row 51 9 (List.map Redir.pv f) true] ⟨rfl,trivial⟩ rfl ?_
   ·repeat'(first|exact Q5f.nil|refine Q5f.cons rfl rfl rfl ?_ ?_)
    all_goals simp -implicitDefEqProofs only[RUNS,Q1j,Nat.reduceAdd,Nat.reduceLeDiff,Nat.reduceSub,reduceIte,Nat.reduceEqDiff,Nat.reduceLT,reduceCtorEq,Nat.reduceMul,Nat.reduceBEq,Int.reduceEq,Int.reduceToNat,G2g,G2p,if_true,G2v,eq_self,ne_eq,Q2t,gdec,G5i,G6o,G3j,G4b,G3a,bq1,bq2,TYS,T_96,T_5,T_58,T_60,T_3,T_9,J0y.eq_1,X4i.eq_1,u]
   refine⟨⟨sl [(2,.pv (.str d))],14,[.prn 5 d 51 9 (List.map Redir.pv f),.moved 5 1 (List.length d),.moved 51 9 (List.length f)]⟩,(Weak.trans (Weak.implode 0 1 2 rfl rfl rfl rfl (by first|rfl|simp only[G1h])) (Weak.of_eq (σ'':=⟨sl [(2,.pv (.str d))],14,[.prn 5 d 51 9 (List.map Redir.pv f),.moved 5 1 (List.length d),.moved 51 9 (List.length f)]⟩) (Wq0 (L:=[(2,.pv (.str d))]) ⟨rfl,trivial⟩) (by first|rfl|(simp only[G1h];rfl)))),?_⟩
   refine AW.ret ?_
   exact fin
end Go.Abs.U48
