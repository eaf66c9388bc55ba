import Derived.Test.YtljahlbklgnfhaaGreatDoorD1
set_option linter.unusedVariables false
set_option linter.unusedSimpArgs false
set_option maxRecDepth 8000
set_option maxHeartbeats 4000000
namespace Go.Abs.U48
open Go.RowKit Go.Proofs AW
open Go.Proofs.Tryz
theorem Y7t{m:Y10}{n:Y9}(c:AllG env [S26 n,S10 m]):Q0c env (S10 (F10 m n)):=by
 refine hd c (fnq func10) 120 λO X hS hX hpf hk ⟨g,i⟩=>λr (h:F10 m n g i=some r)=>?_
 have A:O.pf 26=true:=pft hpf 26 rfl
 refine gs ?_
 rw[F10]at h
 refine R [0,1] ?_
 refine seq (R [0,1,15] ?_)
 refine ik h (λh=>?_) λh=>?_
 ·exact Rt h [4]
 refine seq (R [0,1,5] ?_)
 refine block (Lp h (λf=>⟨sl [(0,vC g),(1,vC i),(5,ai f)],120,[]⟩) ?_)
 clear h
 rintro f I h
 rw[Z5y]at h
 try dsimp only at h
 refine AW.st (seq ?_)
 refine R [0,1,5,19] ?_
 refine iz h (λh=>?_) λh=>?_
 ·refine skip (seq ?_)
  refine block (seq ?_)
  refine weak (Weak.hold 6) ?_
  refine weak (σ':=⟨sl [(0,vC g),(1,vC i),(5,ai f),(19,ab (decide (f<(g.length:Int))))],120,[.hold 6]⟩) (Weak.of_eq (Wq0 (L:=[(0,vC g),(1,vC i),(5,ai f),(19,ab (decide (f<(g.length:Int))))]) ⟨rfl,rfl,rfl,rfl,trivial⟩) (by first|rfl|(simp only[G3y,G1h];rfl))) ?_
  refine weak (Weak.hold 7) ?_
  refine weak (σ':=⟨sl [(0,vC g),(1,vC i),(5,ai f),(19,ab (decide (f<(g.length:Int))))],120,[.hold 6,.hold 7]⟩) (Weak.of_eq (Wq0 (L:=[(0,vC g),(1,vC i),(5,ai f),(19,ab (decide (f<(g.length:Int))))]) ⟨rfl,rfl,rfl,rfl,trivial⟩) (by first|rfl|(simp only[G3y,G1h];rfl))) ?_
  obtain⟨a,t,h⟩:=oc h λ_=>Q0m
  obtain⟨b,u,h⟩:=oc h λ_=>Q0m
  refine AW.dregW mixed hS [8,9,10,11] [[],[8],[9],[8,9],[8,9,10],[8,9,10,11]] 5 [(0,0,0),(0,1,1),(0,2,2),(0,3,3),(1,0,0),(1,1,1),(1,2,2),(1,3,3),(2,0,0),(2,1,1),(2,2,2),(2,3,3),(3,0,0),(3,1,1),(3,2,2),(3,3,3),(4,0,0),(4,1,1),(4,2,2),(4,3,3),(4,4,4),(5,0,0),(5,1,1),(5,2,2),(5,3,3),(5,4,4),(6,0,0),(6,1,1),(6,2,2),(6,3,3),(6,4,4),(7,0,0),(7,1,1),(7,2,2),(7,3,3),(7,4,4),(8,0,1),(8,2,3),(9,0,2),(9,1,3),(10,3,4),(11,4,5)] [vC g,ai f,.pptr [.int .i64 a.kind_,.int .i64 a.at_,.str a.name_,.slice (List.map Word.pv a.words_),.slice (List.map Redir.pv a.redirs_),.slice (List.map Cmd.pv a.kids_)],.pv (V13 a),vC i,ai f,.pptr [.int .i64 b.kind_,.int .i64 b.at_,.str b.name_,.slice (List.map Word.pv b.words_),.slice (List.map Redir.pv b.redirs_),.slice (List.map Cmd.pv b.kids_)],.pv (V13 b),.ref 0 0,.ref 1 0,.any,.any] [[.hold 6,.hold 7],[V11 0 0 [],.hold 7],[.hold 6,V11 0 0 []],[V11 0 0 [],V11 0 0 []],[V1 a,V11 0 0 []],[V1 a,V1 b]] [(22,vC g),(23,ai f),(24,.pptr [.int .i64 a.kind_,.int .i64 a.at_,.str a.name_,.slice (List.map Word.pv a.words_),.slice (List.map Redir.pv a.redirs_),.slice (List.map Cmd.pv a.kids_)]),(25,.pv (V13 a)),(26,vC i),(27,ai f),(28,.pptr [.int .i64 b.kind_,.int .i64 b.at_,.str b.name_,.slice (List.map Word.pv b.words_),.slice (List.map Redir.pv b.redirs_),.slice (List.map Cmd.pv b.kids_)]),(29,.pv (V13 b)),(6,.ref 0 0),(7,.ref 1 0),(0,vC g),(1,vC i),(5,ai f),(19,ab (decide (f<(g.length:Int))))] (by kernel_rfl) (by kernel_rfl) (by kernel_rfl) ?_ [(0,vC g),(1,vC i),(5,ai f),(6,.ref 0 0),(7,.ref 1 0)] [V1 a,V1 b] ⟨rfl,rfl,rfl,rfl,rfl,trivial⟩ rfl ?_
  ·repeat'(first|exact Q3b.nil|refine Q3b.fill rfl rfl rfl rfl rfl (by rw[X9q];decide) T_36 rfl rfl rfl rfl ?_|refine Q3b.does rfl rfl rfl ?_ ?_)
   all_goals exact dv1 (an t.1 (an t.2.1 (an u.1 u.2.1)))
  obtain⟨C,o,h⟩:=obs h
  replace o:=Q0d o
  have D:=λl=>(hk 0 26 rfl).ret (a.words_,b.words_) (o l) rfl rfl
  obtain⟨E,p,h⟩:=obs h
  replace p:=Q0d p
  have F:=λl=>(hk 1 10 rfl).ret (a.kids_,b.kids_) (p l) rfl rfl
  refine seq (seq ?_)
  refine reg hS [(0,vC g),(1,vC i),(5,ai f),(6,.ref 0 0),(7,.ref 1 0),(66,ab ((((!decide (a.kind_=b.kind_)||!decide (a.name_=b.name_))||!C)||!E)||!decide ((a.redirs_.length:Int)=(b.redirs_.length:Int))))] [V1 a,V1 b] ?_ ?_
  ·clear h hk hS hX c
   exact dh1 (an A (an D (ap1 10 hpf F)))
  refine ik h (λh=>?_) λh=>?_
  ·exact Rt h [4]
  refine R [0,1,5,6,7,8] ?_
  refine block (Lp h (λj=>⟨sl [(0,vC g),(1,vC i),(5,ai f),(6,.ref 0 0),(7,.ref 1 0),(8,ai j)],120,[V1 a,V1 b]⟩) ?_)
  clear h
  rintro j J h
  rw[J2i]at h
  try dsimp only at h
  refine AW.st (seq ?_)
  refine R [0,1,5,6,7,8,71] ?_
  refine iz h (λh=>?_) λh=>?_
  ·refine skip (seq ?_)
   refine block (seq ?_)
   refine weak (Weak.hold 9) ?_
   refine weak (σ':=⟨sl [(0,vC g),(1,vC i),(5,ai f),(6,.ref 0 0),(7,.ref 1 0),(8,ai j),(71,ab (decide (j<(a.redirs_.length:Int))))],120,[V1 a,V1 b,.hold 9]⟩) (Weak.of_eq (Wq0 (L:=[(0,vC g),(1,vC i),(5,ai f),(6,.ref 0 0),(7,.ref 1 0),(8,ai j),(71,ab (decide (j<(a.redirs_.length:Int))))]) ⟨rfl,rfl,rfl,rfl,rfl,rfl,rfl,trivial⟩) (by first|rfl|(simp only[G3y,G1h];rfl))) ?_
   refine weak (Weak.hold 10) ?_
   refine weak (σ':=⟨sl [(0,vC g),(1,vC i),(5,ai f),(6,.ref 0 0),(7,.ref 1 0),(8,ai j),(71,ab (decide (j<(a.redirs_.length:Int))))],120,[V1 a,V1 b,.hold 9,.hold 10]⟩) (Weak.of_eq (Wq0 (L:=[(0,vC g),(1,vC i),(5,ai f),(6,.ref 0 0),(7,.ref 1 0),(8,ai j),(71,ab (decide (j<(a.redirs_.length:Int))))]) ⟨rfl,rfl,rfl,rfl,rfl,rfl,rfl,trivial⟩) (by first|rfl|(simp only[G3y,G1h];rfl))) ?_
   obtain⟨d,x,h⟩:=oc h λ_=>Q0m
   obtain⟨e,y,h⟩:=oc h λ_=>Q0m
   refine AW.dregW mixed hS [10,11,12,13] [[],[10],[11],[10,11],[10,11,12],[10,11,12,13]] 5 [(0,0,0),(0,1,1),(0,2,2),(0,3,3),(1,0,0),(1,1,1),(1,2,2),(1,3,3),(2,0,0),(2,1,1),(2,2,2),(2,3,3),(3,0,0),(3,1,1),(3,2,2),(3,3,3),(4,0,0),(4,1,1),(4,2,2),(4,3,3),(5,0,0),(5,1,1),(5,2,2),(5,3,3),(5,4,4),(6,0,0),(6,1,1),(6,2,2),(6,3,3),(6,4,4),(7,0,0),(7,1,1),(7,2,2),(7,3,3),(7,4,4),(8,0,0),(8,1,1),(8,2,2),(8,3,3),(8,4,4),(9,0,0),(9,1,1),(9,2,2),(9,3,3),(9,4,4),(10,0,1),(10,2,3),(11,0,2),(11,1,3),(12,3,4),(13,4,5)] [.ref 0 4,vRe a.redirs_,ai j,.pptr [.int .i64 d.kind_,.int .i64 d.fd_,.int .i64 d.from_,.int .i64 d.word_.kind_,.str d.word_.text_,.str d.word_.quoted_,.slice (List.map Word.pv d.word_.words_),.slice (List.map Cmd.pv d.word_.cmd_),.bool d.raw_],.pv (V19 d),.ref 1 4,vRe b.redirs_,ai j,.pptr [.int .i64 e.kind_,.int .i64 e.fd_,.int .i64 e.from_,.int .i64 e.word_.kind_,.str e.word_.text_,.str e.word_.quoted_,.slice (List.map Word.pv e.word_.words_),.slice (List.map Cmd.pv e.word_.cmd_),.bool e.raw_],.pv (V19 e),.ref 2 0,.ref 3 0,.any,.any] [[V1 a,V1 b,.hold 9,.hold 10],[V1 a,V1 b,V15 0 0 0 0 [] [] false,.hold 10],[V1 a,V1 b,.hold 9,V15 0 0 0 0 [] [] false],[V1 a,V1 b,V15 0 0 0 0 [] [] false,V15 0 0 0 0 [] [] false],[V1 a,V1 b,V0 d,V15 0 0 0 0 [] [] false],[V1 a,V1 b,V0 d,V0 e]] [(74,.ref 0 4),(75,vRe a.redirs_),(76,ai j),(77,.pptr [.int .i64 d.kind_,.int .i64 d.fd_,.int .i64 d.from_,.int .i64 d.word_.kind_,.str d.word_.text_,.str d.word_.quoted_,.slice (List.map Word.pv d.word_.words_),.slice (List.map Cmd.pv d.word_.cmd_),.bool d.raw_]),(78,.pv (V19 d)),(79,.ref 1 4),(80,vRe b.redirs_),(81,ai j),(82,.pptr [.int .i64 e.kind_,.int .i64 e.fd_,.int .i64 e.from_,.int .i64 e.word_.kind_,.str e.word_.text_,.str e.word_.quoted_,.slice (List.map Word.pv e.word_.words_),.slice (List.map Cmd.pv e.word_.cmd_),.bool e.raw_]),(83,.pv (V19 e)),(9,.ref 2 0),(10,.ref 3 0),(0,vC g),(1,vC i),(5,ai f),(6,.ref 0 0),(7,.ref 1 0),(8,ai j),(71,ab (decide (j<(a.redirs_.length:Int))))] (by kernel_rfl) (by kernel_rfl) (by kernel_rfl) ?_ [(0,vC g),(1,vC i),(5,ai f),(6,.ref 0 0),(7,.ref 1 0),(8,ai j),(9,.ref 2 0),(10,.ref 3 0)] [V1 a,V1 b,V0 d,V0 e] ⟨rfl,rfl,rfl,rfl,rfl,rfl,rfl,rfl,trivial⟩ rfl ?_
   ·repeat'(first|exact Q3b.nil|refine Q3b.fill rfl rfl rfl rfl rfl (by rw[X9q];decide) T_51 rfl rfl rfl rfl ?_|refine Q3b.does rfl rfl rfl ?_ ?_)
    all_goals exact dv1 (an x.1 (an x.2.1 (an y.1 y.2.1)))
   obtain⟨H,q,h⟩:=obs h
   replace q:=Q0d q
   have z:=λl=>(hk 0 26 rfl).ret (([d.word_]:List Word),([e.word_]:List Word)) (q l) rfl rfl
   try simp only[PVE]at z
   refine seq (reg hS [(0,vC g),(1,vC i),(5,ai f),(6,.ref 0 0),(7,.ref 1 0),(8,ai j),(119,ab ((((!decide (d.kind_=e.kind_)||!decide (d.fd_=e.fd_))||!decide (d.from_=e.from_))||!(d.raw_==e.raw_))||!H))] [V1 a,V1 b,V0 d,V0 e] ?_ ?_)
   ·clear h hk hS hX c
    exact dh1 (ap1 26 hpf z)
   refine ik h (λh=>?_) λh=>?_
   ·exact Rt h [4]
   refine G [0,1,5,6,7,8] ?_
   exact nx h
  refine exit (G [0,1,5] ?_)
  exact nx h
 exact exit (Rt h [4])
end Go.Abs.U48
