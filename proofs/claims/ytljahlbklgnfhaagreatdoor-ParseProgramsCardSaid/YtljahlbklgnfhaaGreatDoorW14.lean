import Derived.Test.YtljahlbklgnfhaaGreatDoorD1
set_option linter.unusedVariables false
set_option linter.unusedSimpArgs false
set_option maxRecDepth 8000
set_option maxHeartbeats 4000000
namespace Go.Abs.U48
open Go.RowKit Go.Proofs AW
theorem Y2t{k:Y6}{l:Y4}(c:AllG env [S26 l,S10 k]):Q0c env (S10 (F10 k l)):=by
 refine hd c V5x 120 λO X hS hX hpf hk ⟨f,g⟩=>λr (h:F10 k l f g=some r)=>?_
 have w:O.pf 26=true:=pft hpf 26 rfl
 refine gs ?_
 rw[F10]at h
 refine R [0,1] ?_
 refine seq (R [0,1,15] ?_)
 refine ik h (λh=>?_) λh=>?_
 ·exact Rt h [4]
 refine seq (R [0,1,5] ?_)
 refine block (Lp h (λi5=>⟨sl [(0,vC f),(1,vC g),(5,ai i5)],120,[]⟩) ?_)
 clear h
 rintro i5 D h
 rw[Z4e]at h
 try dsimp only at h
 refine AW.st (seq ?_)
 refine R [0,1,5,19] ?_
 refine iz h (λh=>?_) λh=>?_
 ·refine skip (seq ?_)
  refine block (seq ?_)
  refine weak (Weak.hold 6) ?_
  refine weak (σ':=⟨sl [(0,vC f),(1,vC g),(5,ai i5),(19,ab (decide (i5<(f.length:Int))))],120,[.hold 6]⟩) (Weak.of_eq (Weak.slots (L:=[(0,vC f),(1,vC g),(5,ai i5),(19,ab (decide (i5<(f.length:Int))))]) ⟨rfl,rfl,rfl,rfl,trivial⟩) (by first|rfl|(simp only[G2s,G1m];rfl))) ?_
  refine weak (Weak.hold 7) ?_
  refine weak (σ':=⟨sl [(0,vC f),(1,vC g),(5,ai i5),(19,ab (decide (i5<(f.length:Int))))],120,[.hold 6,.hold 7]⟩) (Weak.of_eq (Weak.slots (L:=[(0,vC f),(1,vC g),(5,ai i5),(19,ab (decide (i5<(f.length:Int))))]) ⟨rfl,rfl,rfl,rfl,trivial⟩) (by first|rfl|(simp only[G2s,G1m];rfl))) ?_
  obtain⟨a,p,h⟩:=oc h λ_=>Q0l
  obtain⟨b,q,h⟩:=oc h λ_=>Q0l
  refine AW.dregW mixed hS [8,9,10,11] [[],[8],[9],[8,9],[8,9,10],[8,9,10,11]] 5 [(0,0,0),(0,1,1),(0,2,2),(0,3,3),(1,0,0),(1,1,1),(1,2,2),(1,3,3),(2,0,0),(2,1,1),(2,2,2),(2,3,3),(3,0,0),(3,1,1),(3,2,2),(3,3,3),(4,0,0),(4,1,1),(4,2,2),(4,3,3),(4,4,4),(5,0,0),(5,1,1),(5,2,2),(5,3,3),(5,4,4),(6,0,0),(6,1,1),(6,2,2),(6,3,3),(6,4,4),(7,0,0),(7,1,1),(7,2,2),(7,3,3),(7,4,4),(8,0,1),(8,2,3),(9,0,2),(9,1,3),(10,3,4),(11,4,5)] [vC f,ai i5,.pptr [.int .i64 a.kind_,.int .i64 a.at_,.str a.name_,.slice (List.map Word.pv a.words_),.slice (List.map Redir.pv a.redirs_),.slice (List.map Cmd.pv a.kids_)],.pv (V7 a),vC g,ai i5,.pptr [.int .i64 b.kind_,.int .i64 b.at_,.str b.name_,.slice (List.map Word.pv b.words_),.slice (List.map Redir.pv b.redirs_),.slice (List.map Cmd.pv b.kids_)],.pv (V7 b),.ref 0 0,.ref 1 0,.any,.any] [[.hold 6,.hold 7],[V5 0 0 [],.hold 7],[.hold 6,V5 0 0 []],[V5 0 0 [],V5 0 0 []],[V9 a,V5 0 0 []],[V9 a,V9 b]] [(22,vC f),(23,ai i5),(24,.pptr [.int .i64 a.kind_,.int .i64 a.at_,.str a.name_,.slice (List.map Word.pv a.words_),.slice (List.map Redir.pv a.redirs_),.slice (List.map Cmd.pv a.kids_)]),(25,.pv (V7 a)),(26,vC g),(27,ai i5),(28,.pptr [.int .i64 b.kind_,.int .i64 b.at_,.str b.name_,.slice (List.map Word.pv b.words_),.slice (List.map Redir.pv b.redirs_),.slice (List.map Cmd.pv b.kids_)]),(29,.pv (V7 b)),(6,.ref 0 0),(7,.ref 1 0),(0,vC f),(1,vC g),(5,ai i5),(19,ab (decide (i5<(f.length:Int))))] (by kernel_rfl) (by kernel_rfl) (by kernel_rfl) ?_ [(0,vC f),(1,vC g),(5,ai i5),(6,.ref 0 0),(7,.ref 1 0)] [V9 a,V9 b] ⟨rfl,rfl,rfl,rfl,rfl,trivial⟩ rfl ?_
  ·repeat'(first|exact Q3l.nil|refine Q3l.fill rfl rfl rfl rfl rfl (by rw[X3x];decide) T_36 rfl rfl rfl rfl ?_|refine Q3l.does rfl rfl rfl ?_ ?_)
   all_goals exact dv1 (an p.1 (an p.2.1 (an q.1 q.2.1)))
  obtain⟨x,m,h⟩:=obs h
  replace m:=Q0d m
  have y:=λj=>(hk 0 26 rfl).ret (a.words_,b.words_) (m j) rfl rfl
  obtain⟨z,n,h⟩:=obs h
  replace n:=Q0d n
  have A:=λj=>(hk 1 10 rfl).ret (a.kids_,b.kids_) (n j) rfl rfl
  refine seq (seq ?_)
  refine reg hS [(0,vC f),(1,vC g),(5,ai i5),(6,.ref 0 0),(7,.ref 1 0),(66,ab ((((!decide (a.kind_=b.kind_)||!decide (a.name_=b.name_))||!x)||!z)||!decide ((a.redirs_.length:Int)=(b.redirs_.length:Int))))] [V9 a,V9 b] ?_ ?_
  ·clear h hk hS hX c
   exact dh1 (an w (an y (ap1 10 hpf A)))
  refine ik h (λh=>?_) λh=>?_
  ·exact Rt h [4]
  refine R [0,1,5,6,7,8] ?_
  refine block (Lp h (λi=>⟨sl [(0,vC f),(1,vC g),(5,ai i5),(6,.ref 0 0),(7,.ref 1 0),(8,ai i)],120,[V9 a,V9 b]⟩) ?_)
  clear h
  rintro i E h
  rw[Z9n]at h
  try dsimp only at h
  refine AW.st (seq ?_)
  refine R [0,1,5,6,7,8,71] ?_
  refine iz h (λh=>?_) λh=>?_
  ·refine skip (seq ?_)
   refine block (seq ?_)
   refine weak (Weak.hold 9) ?_
   refine weak (σ':=⟨sl [(0,vC f),(1,vC g),(5,ai i5),(6,.ref 0 0),(7,.ref 1 0),(8,ai i),(71,ab (decide (i<(a.redirs_.length:Int))))],120,[V9 a,V9 b,.hold 9]⟩) (Weak.of_eq (Weak.slots (L:=[(0,vC f),(1,vC g),(5,ai i5),(6,.ref 0 0),(7,.ref 1 0),(8,ai i),(71,ab (decide (i<(a.redirs_.length:Int))))]) ⟨rfl,rfl,rfl,rfl,rfl,rfl,rfl,trivial⟩) (by first|rfl|(simp only[G2s,G1m];rfl))) ?_
   refine weak (Weak.hold 10) ?_
   refine weak (σ':=⟨sl [(0,vC f),(1,vC g),(5,ai i5),(6,.ref 0 0),(7,.ref 1 0),(8,ai i),(71,ab (decide (i<(a.redirs_.length:Int))))],120,[V9 a,V9 b,.hold 9,.hold 10]⟩) (Weak.of_eq (Weak.slots (L:=[(0,vC f),(1,vC g),(5,ai i5),(6,.ref 0 0),(7,.ref 1 0),(8,ai i),(71,ab (decide (i<(a.redirs_.length:Int))))]) ⟨rfl,rfl,rfl,rfl,rfl,rfl,rfl,trivial⟩) (by first|rfl|(simp only[G2s,G1m];rfl))) ?_
   obtain⟨d,s,h⟩:=oc h λ_=>Q0l
   obtain⟨e,t,h⟩:=oc h λ_=>Q0l
   refine AW.dregW mixed hS [10,11,12,13] [[],[10],[11],[10,11],[10,11,12],[10,11,12,13]] 5 [(0,0,0),(0,1,1),(0,2,2),(0,3,3),(1,0,0),(1,1,1),(1,2,2),(1,3,3),(2,0,0),(2,1,1),(2,2,2),(2,3,3),(3,0,0),(3,1,1),(3,2,2),(3,3,3),(4,0,0),(4,1,1),(4,2,2),(4,3,3),(5,0,0),(5,1,1),(5,2,2),(5,3,3),(5,4,4),(6,0,0),(6,1,1),(6,2,2),(6,3,3),(6,4,4),(7,0,0),(7,1,1),(7,2,2),(7,3,3),(7,4,4),(8,0,0),(8,1,1),(8,2,2),(8,3,3),(8,4,4),(9,0,0),(9,1,1),(9,2,2),(9,3,3),(9,4,4),(10,0,1),(10,2,3),(11,0,2),(11,1,3),(12,3,4),(13,4,5)] [.ref 0 4,vRe a.redirs_,ai i,.pptr [.int .i64 d.kind_,.int .i64 d.fd_,.int .i64 d.from_,.int .i64 d.word_.kind_,.str d.word_.text_,.str d.word_.quoted_,.slice (List.map Word.pv d.word_.words_),.slice (List.map Cmd.pv d.word_.cmd_),.bool d.raw_],.pv (V15 d),.ref 1 4,vRe b.redirs_,ai i,.pptr [.int .i64 e.kind_,.int .i64 e.fd_,.int .i64 e.from_,.int .i64 e.word_.kind_,.str e.word_.text_,.str e.word_.quoted_,.slice (List.map Word.pv e.word_.words_),.slice (List.map Cmd.pv e.word_.cmd_),.bool e.raw_],.pv (V15 e),.ref 2 0,.ref 3 0,.any,.any] [[V9 a,V9 b,.hold 9,.hold 10],[V9 a,V9 b,V10 0 0 0 0 [] [] false,.hold 10],[V9 a,V9 b,.hold 9,V10 0 0 0 0 [] [] false],[V9 a,V9 b,V10 0 0 0 0 [] [] false,V10 0 0 0 0 [] [] false],[V9 a,V9 b,V20 d,V10 0 0 0 0 [] [] false],[V9 a,V9 b,V20 d,V20 e]] [(74,.ref 0 4),(75,vRe a.redirs_),(76,ai i),(77,.pptr [.int .i64 d.kind_,.int .i64 d.fd_,.int .i64 d.from_,.int .i64 d.word_.kind_,.str d.word_.text_,.str d.word_.quoted_,.slice (List.map Word.pv d.word_.words_),.slice (List.map Cmd.pv d.word_.cmd_),.bool d.raw_]),(78,.pv (V15 d)),(79,.ref 1 4),(80,vRe b.redirs_),(81,ai i),(82,.pptr [.int .i64 e.kind_,.int .i64 e.fd_,.int .i64 e.from_,.int .i64 e.word_.kind_,.str e.word_.text_,.str e.word_.quoted_,.slice (List.map Word.pv e.word_.words_),.slice (List.map Cmd.pv e.word_.cmd_),.bool e.raw_]),(83,.pv (V15 e)),(9,.ref 2 0),(10,.ref 3 0),(0,vC f),(1,vC g),(5,ai i5),(6,.ref 0 0),(7,.ref 1 0),(8,ai i),(71,ab (decide (i<(a.redirs_.length:Int))))] (by kernel_rfl) (by kernel_rfl) (by kernel_rfl) ?_ [(0,vC f),(1,vC g),(5,ai i5),(6,.ref 0 0),(7,.ref 1 0),(8,ai i),(9,.ref 2 0),(10,.ref 3 0)] [V9 a,V9 b,V20 d,V20 e] ⟨rfl,rfl,rfl,rfl,rfl,rfl,rfl,rfl,trivial⟩ rfl ?_
   ·repeat'(first|exact Q3l.nil|refine Q3l.fill rfl rfl rfl rfl rfl (by rw[X3x];decide) T_51 rfl rfl rfl rfl ?_|refine Q3l.does rfl rfl rfl ?_ ?_)
    all_goals exact dv1 (an s.1 (an s.2.1 (an t.1 t.2.1)))
   obtain⟨C,o,h⟩:=obs h
   replace o:=Q0d o
   have u:=λj=>(hk 0 26 rfl).ret (([d.word_]:List Word),([e.word_]:List Word)) (o j) rfl rfl
   try simp only[PVE]at u
   refine seq (reg hS [(0,vC f),(1,vC g),(5,ai i5),(6,.ref 0 0),(7,.ref 1 0),(8,ai i),(119,ab ((((!decide (d.kind_=e.kind_)||!decide (d.fd_=e.fd_))||!decide (d.from_=e.from_))||!(d.raw_==e.raw_))||!C))] [V9 a,V9 b,V20 d,V20 e] ?_ ?_)
   ·clear h hk hS hX c
    exact dh1 (ap1 26 hpf u)
   refine ik h (λh=>?_) λh=>?_
   ·exact Rt h [4]
   refine G [0,1,5,6,7,8] ?_
   exact nx h
  refine exit (G [0,1,5] ?_)
  exact nx h
 exact exit (Rt h [4])
theorem Y2h{d:Y6}{e:Y4}(c:AllG env [S26 e,S10 d]):Q0c env (S26 (F26 d e)):=by
 refine hd c V2i 82 λO X hS hX hpf hk ⟨f,g⟩=>λr (h:F26 d e f g=some r)=>?_
 have n:O.pf 26=true:=pft hpf 26 rfl
 refine gs ?_
 rw[F26]at h
 refine R [0,1] ?_
 refine seq (R [0,1,10] ?_)
 refine ik h (λh=>?_) λh=>?_
 ·exact Rt h [4]
 refine seq (R [0,1,5] ?_)
 refine block (Lp h (λi5=>⟨sl [(0,vWo f),(1,vWo g),(5,ai i5)],82,[]⟩) ?_)
 clear h
 rintro i5 t h
 rw[Z4b]at h
 try dsimp only at h
 refine AW.st (seq ?_)
 refine R [0,1,5,14] ?_
 refine iz h (λh=>?_) λh=>?_
 ·obtain⟨a,l,h⟩:=oc h λ_=>Q0l
  obtain⟨b,m,h⟩:=oc h λ_=>Q0l
  obtain⟨o,i,h⟩:=obs h
  replace i:=Q0d i
  have p:=λj=>(hk 0 26 rfl).ret (a.words_,b.words_) (i j) rfl rfl
  obtain⟨q,k,h⟩:=obs h
  replace k:=Q0d k
  have s:=λj=>(hk 1 10 rfl).ret (a.cmd_,b.cmd_) (k j) rfl rfl
  refine skip (seq ?_)
  refine block (seq ?_)
  refine dreg mixed hS (ordp hpf (by kernel_rfl)) [(0,vWo f),(1,vWo g),(5,ai i5),(81,ab ((((!decide (a.kind_=b.kind_)||!decide (a.text_=b.text_))||!decide (a.quoted_=b.quoted_))||!o)||!q))] [] ?_ ?_
  ·clear h hk hS hX c
   exact dh1 (an l.1 (an l.2.1 (an m.1 (an m.2.1 (an n (an p (ap1 10 hpf s)))))))
  refine ik h (λh=>?_) λh=>?_
  ·exact Rt h [4]
  refine G [0,1,5] ?_
  exact nx h
 exact exit (Rt h [4])
end Go.Abs.U48
