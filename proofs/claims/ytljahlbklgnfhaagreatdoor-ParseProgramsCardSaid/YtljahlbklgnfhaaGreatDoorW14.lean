import Derived.Test.YtljahlbklgnfhaaGreatDoorD1
set_option linter.unusedVariables false
set_option linter.unusedSimpArgs false
set_option linter.defProp false
set_option maxRecDepth 8000
set_option maxHeartbeats 4000000
namespace Go.Abs.U48
open Go.RowKit Go.Proofs AW
theorem V7c{w10:Y6}{w26:Y4}(c:AllG env [S26 w26,S10 w10]):Q0a env (S10 (F10 w10 w26)):=by
 refine hd c V1g 120 fun O X hS hX hpf hk ⟨a1,b2⟩=>fun r (h:F10 w10 w26 a1 b2=some r)=>?_
 have pf_26:O.pf 26=true:=pft hpf 26 rfl
 refine gs ?_
 rw[F10]at h
 refine R [0,1] ?_
 refine seq (R [0,1,15] ?_)
 refine ik h (fun h=>?_) fun h=>?_
 ·exact Rt h [4]
 refine seq (R [0,1,5] ?_)
 refine block (Lp h (fun i5=>⟨sl [(0,vC a1),(1,vC b2),(5,ai i5)],120,[]⟩) ?_)
 clear h
 rintro i5 m8 h
 rw[Z2p]at h
 try dsimp only at h
 refine AW.st (seq ?_)
 refine R [0,1,5,19] ?_
 refine iz h (fun h=>?_) fun h=>?_
 ·refine skip (seq ?_)
  refine block (seq ?_)
  refine weak (Weak.hold 6) ?_
  refine weak (σ':=⟨sl [(0,vC a1),(1,vC b2),(5,ai i5),(19,ab (decide (i5<(a1.length:Int))))],120,[.hold 6]⟩) (Weak.of_eq (Weak.slots (L:=[(0,vC a1),(1,vC b2),(5,ai i5),(19,ab (decide (i5<(a1.length:Int))))]) ⟨rfl,rfl,rfl,rfl,trivial⟩) (by first|rfl|(simp only[List.length_set,List.length_map];rfl))) ?_
  refine weak (Weak.hold 7) ?_
  refine weak (σ':=⟨sl [(0,vC a1),(1,vC b2),(5,ai i5),(19,ab (decide (i5<(a1.length:Int))))],120,[.hold 6,.hold 7]⟩) (Weak.of_eq (Weak.slots (L:=[(0,vC a1),(1,vC b2),(5,ai i5),(19,ab (decide (i5<(a1.length:Int))))]) ⟨rfl,rfl,rfl,rfl,trivial⟩) (by first|rfl|(simp only[List.length_set,List.length_map];rfl))) ?_
  obtain⟨u10,f12,h⟩:=oc h fun _=>Q0j
  obtain⟨u13,f15,h⟩:=oc h fun _=>Q0j
  refine AW.dregW mixed hS [8,9,10,11] [[],[8],[9],[8,9],[8,9,10],[8,9,10,11]] 5 [(0,0,0),(0,1,1),(0,2,2),(0,3,3),(1,0,0),(1,1,1),(1,2,2),(1,3,3),(2,0,0),(2,1,1),(2,2,2),(2,3,3),(3,0,0),(3,1,1),(3,2,2),(3,3,3),(4,0,0),(4,1,1),(4,2,2),(4,3,3),(4,4,4),(5,0,0),(5,1,1),(5,2,2),(5,3,3),(5,4,4),(6,0,0),(6,1,1),(6,2,2),(6,3,3),(6,4,4),(7,0,0),(7,1,1),(7,2,2),(7,3,3),(7,4,4),(8,0,1),(8,2,3),(9,0,2),(9,1,3),(10,3,4),(11,4,5)] [vC a1,ai i5,.pptr [.int .i64 u10.kind_,.int .i64 u10.at_,.str u10.name_,.slice (List.map Word.pv u10.words_),.slice (List.map Redir.pv u10.redirs_),.slice (List.map Cmd.pv u10.kids_)],.pv (V7 u10),vC b2,ai i5,.pptr [.int .i64 u13.kind_,.int .i64 u13.at_,.str u13.name_,.slice (List.map Word.pv u13.words_),.slice (List.map Redir.pv u13.redirs_),.slice (List.map Cmd.pv u13.kids_)],.pv (V7 u13),.ref 0 0,.ref 1 0,.any,.any] [[.hold 6,.hold 7],[V5 0 0 [],.hold 7],[.hold 6,V5 0 0 []],[V5 0 0 [],V5 0 0 []],[V9 u10,V5 0 0 []],[V9 u10,V9 u13]] [(22,vC a1),(23,ai i5),(24,.pptr [.int .i64 u10.kind_,.int .i64 u10.at_,.str u10.name_,.slice (List.map Word.pv u10.words_),.slice (List.map Redir.pv u10.redirs_),.slice (List.map Cmd.pv u10.kids_)]),(25,.pv (V7 u10)),(26,vC b2),(27,ai i5),(28,.pptr [.int .i64 u13.kind_,.int .i64 u13.at_,.str u13.name_,.slice (List.map Word.pv u13.words_),.slice (List.map Redir.pv u13.redirs_),.slice (List.map Cmd.pv u13.kids_)]),(29,.pv (V7 u13)),(6,.ref 0 0),(7,.ref 1 0),(0,vC a1),(1,vC b2),(5,ai i5),(19,ab (decide (i5<(a1.length:Int))))] (by kernel_rfl) (by kernel_rfl) (by kernel_rfl) ?_ [(0,vC a1),(1,vC b2),(5,ai i5),(6,.ref 0 0),(7,.ref 1 0)] [V9 u10,V9 u13] ⟨rfl,rfl,rfl,rfl,rfl,trivial⟩ rfl ?_
  ·repeat'(first|exact Q3a.nil|refine Q3a.fill rfl rfl rfl rfl rfl (by rw[X0u];decide) T_36 rfl rfl rfl rfl ?_|refine Q3a.does rfl rfl rfl ?_ ?_)
   all_goals exact dv1 (an f12.1 (an f12.2.1 (an f15.1 f15.2.1)))
  obtain⟨r16,q17,h⟩:=obs h
  replace q17:=Q0d q17
  have f18:=fun hg=>(hk 0 26 rfl).ret (u10.words_,u13.words_) (q17 hg) rfl rfl
  obtain⟨r19,q20,h⟩:=obs h
  replace q20:=Q0d q20
  have f21:=fun hg=>(hk 1 10 rfl).ret (u10.kids_,u13.kids_) (q20 hg) rfl rfl
  refine seq (seq ?_)
  refine reg hS [(0,vC a1),(1,vC b2),(5,ai i5),(6,.ref 0 0),(7,.ref 1 0),(66,ab ((((!decide (u10.kind_=u13.kind_)||!decide (u10.name_=u13.name_))||!r16)||!r19)||!decide ((u10.redirs_.length:Int)=(u13.redirs_.length:Int))))] [V9 u10,V9 u13] ?_ ?_
  ·clear h hk hS hX c
   exact dh1 (an pf_26 (an f18 (ap1 10 hpf f21)))
  refine ik h (fun h=>?_) fun h=>?_
  ·exact Rt h [4]
  refine R [0,1,5,6,7,8] ?_
  refine block (Lp h (fun k23=>⟨sl [(0,vC a1),(1,vC b2),(5,ai i5),(6,.ref 0 0),(7,.ref 1 0),(8,ai k23)],120,[V9 u10,V9 u13]⟩) ?_)
  clear h
  rintro k23 m26 h
  rw[Z7k]at h
  try dsimp only at h
  refine AW.st (seq ?_)
  refine R [0,1,5,6,7,8,71] ?_
  refine iz h (fun h=>?_) fun h=>?_
  ·refine skip (seq ?_)
   refine block (seq ?_)
   refine weak (Weak.hold 9) ?_
   refine weak (σ':=⟨sl [(0,vC a1),(1,vC b2),(5,ai i5),(6,.ref 0 0),(7,.ref 1 0),(8,ai k23),(71,ab (decide (k23<(u10.redirs_.length:Int))))],120,[V9 u10,V9 u13,.hold 9]⟩) (Weak.of_eq (Weak.slots (L:=[(0,vC a1),(1,vC b2),(5,ai i5),(6,.ref 0 0),(7,.ref 1 0),(8,ai k23),(71,ab (decide (k23<(u10.redirs_.length:Int))))]) ⟨rfl,rfl,rfl,rfl,rfl,rfl,rfl,trivial⟩) (by first|rfl|(simp only[List.length_set,List.length_map];rfl))) ?_
   refine weak (Weak.hold 10) ?_
   refine weak (σ':=⟨sl [(0,vC a1),(1,vC b2),(5,ai i5),(6,.ref 0 0),(7,.ref 1 0),(8,ai k23),(71,ab (decide (k23<(u10.redirs_.length:Int))))],120,[V9 u10,V9 u13,.hold 9,.hold 10]⟩) (Weak.of_eq (Weak.slots (L:=[(0,vC a1),(1,vC b2),(5,ai i5),(6,.ref 0 0),(7,.ref 1 0),(8,ai k23),(71,ab (decide (k23<(u10.redirs_.length:Int))))]) ⟨rfl,rfl,rfl,rfl,rfl,rfl,rfl,trivial⟩) (by first|rfl|(simp only[List.length_set,List.length_map];rfl))) ?_
   obtain⟨u28,f30,h⟩:=oc h fun _=>Q0j
   obtain⟨u31,f33,h⟩:=oc h fun _=>Q0j
   refine AW.dregW mixed hS [10,11,12,13] [[],[10],[11],[10,11],[10,11,12],[10,11,12,13]] 5 [(0,0,0),(0,1,1),(0,2,2),(0,3,3),(1,0,0),(1,1,1),(1,2,2),(1,3,3),(2,0,0),(2,1,1),(2,2,2),(2,3,3),(3,0,0),(3,1,1),(3,2,2),(3,3,3),(4,0,0),(4,1,1),(4,2,2),(4,3,3),(5,0,0),(5,1,1),(5,2,2),(5,3,3),(5,4,4),(6,0,0),(6,1,1),(6,2,2),(6,3,3),(6,4,4),(7,0,0),(7,1,1),(7,2,2),(7,3,3),(7,4,4),(8,0,0),(8,1,1),(8,2,2),(8,3,3),(8,4,4),(9,0,0),(9,1,1),(9,2,2),(9,3,3),(9,4,4),(10,0,1),(10,2,3),(11,0,2),(11,1,3),(12,3,4),(13,4,5)] [.ref 0 4,vRe u10.redirs_,ai k23,.pptr [.int .i64 u28.kind_,.int .i64 u28.fd_,.int .i64 u28.from_,.int .i64 u28.word_.kind_,.str u28.word_.text_,.str u28.word_.quoted_,.slice (List.map Word.pv u28.word_.words_),.slice (List.map Cmd.pv u28.word_.cmd_),.bool u28.raw_],.pv (V15 u28),.ref 1 4,vRe u13.redirs_,ai k23,.pptr [.int .i64 u31.kind_,.int .i64 u31.fd_,.int .i64 u31.from_,.int .i64 u31.word_.kind_,.str u31.word_.text_,.str u31.word_.quoted_,.slice (List.map Word.pv u31.word_.words_),.slice (List.map Cmd.pv u31.word_.cmd_),.bool u31.raw_],.pv (V15 u31),.ref 2 0,.ref 3 0,.any,.any] [[V9 u10,V9 u13,.hold 9,.hold 10],[V9 u10,V9 u13,V10 0 0 0 0 [] [] false,.hold 10],[V9 u10,V9 u13,.hold 9,V10 0 0 0 0 [] [] false],[V9 u10,V9 u13,V10 0 0 0 0 [] [] false,V10 0 0 0 0 [] [] false],[V9 u10,V9 u13,V20 u28,V10 0 0 0 0 [] [] false],[V9 u10,V9 u13,V20 u28,V20 u31]] [(74,.ref 0 4),(75,vRe u10.redirs_),(76,ai k23),(77,.pptr [.int .i64 u28.kind_,.int .i64 u28.fd_,.int .i64 u28.from_,.int .i64 u28.word_.kind_,.str u28.word_.text_,.str u28.word_.quoted_,.slice (List.map Word.pv u28.word_.words_),.slice (List.map Cmd.pv u28.word_.cmd_),.bool u28.raw_]),(78,.pv (V15 u28)),(79,.ref 1 4),(80,vRe u13.redirs_),(81,ai k23),(82,.pptr [.int .i64 u31.kind_,.int .i64 u31.fd_,.int .i64 u31.from_,.int .i64 u31.word_.kind_,.str u31.word_.text_,.str u31.word_.quoted_,.slice (List.map Word.pv u31.word_.words_),.slice (List.map Cmd.pv u31.word_.cmd_),.bool u31.raw_]),(83,.pv (V15 u31)),(9,.ref 2 0),(10,.ref 3 0),(0,vC a1),(1,vC b2),(5,ai i5),(6,.ref 0 0),(7,.ref 1 0),(8,ai k23),(71,ab (decide (k23<(u10.redirs_.length:Int))))] (by kernel_rfl) (by kernel_rfl) (by kernel_rfl) ?_ [(0,vC a1),(1,vC b2),(5,ai i5),(6,.ref 0 0),(7,.ref 1 0),(8,ai k23),(9,.ref 2 0),(10,.ref 3 0)] [V9 u10,V9 u13,V20 u28,V20 u31] ⟨rfl,rfl,rfl,rfl,rfl,rfl,rfl,rfl,trivial⟩ rfl ?_
   ·repeat'(first|exact Q3a.nil|refine Q3a.fill rfl rfl rfl rfl rfl (by rw[X0u];decide) T_51 rfl rfl rfl rfl ?_|refine Q3a.does rfl rfl rfl ?_ ?_)
    all_goals exact dv1 (an f30.1 (an f30.2.1 (an f33.1 f33.2.1)))
   obtain⟨r34,q35,h⟩:=obs h
   replace q35:=Q0d q35
   have f36:=fun hg=>(hk 0 26 rfl).ret (([u28.word_]:List Word),([u31.word_]:List Word)) (q35 hg) rfl rfl
   try simp only[PVE]at f36
   refine seq (reg hS [(0,vC a1),(1,vC b2),(5,ai i5),(6,.ref 0 0),(7,.ref 1 0),(8,ai k23),(119,ab ((((!decide (u28.kind_=u31.kind_)||!decide (u28.fd_=u31.fd_))||!decide (u28.from_=u31.from_))||!(u28.raw_==u31.raw_))||!r34))] [V9 u10,V9 u13,V20 u28,V20 u31] ?_ ?_)
   ·clear h hk hS hX c
    exact dh1 (ap1 26 hpf f36)
   refine ik h (fun h=>?_) fun h=>?_
   ·exact Rt h [4]
   refine G [0,1,5,6,7,8] ?_
   exact nx h
  refine exit (G [0,1,5] ?_)
  exact nx h
 exact exit (Rt h [4])
theorem V6q{w10:Y6}{w26:Y4}(c:AllG env [S26 w26,S10 w10]):Q0a env (S26 (F26 w10 w26)):=by
 refine hd c K7r 82 fun O X hS hX hpf hk ⟨a1,b2⟩=>fun r (h:F26 w10 w26 a1 b2=some r)=>?_
 have pf_26:O.pf 26=true:=pft hpf 26 rfl
 refine gs ?_
 rw[F26]at h
 refine R [0,1] ?_
 refine seq (R [0,1,10] ?_)
 refine ik h (fun h=>?_) fun h=>?_
 ·exact Rt h [4]
 refine seq (R [0,1,5] ?_)
 refine block (Lp h (fun i5=>⟨sl [(0,vWo a1),(1,vWo b2),(5,ai i5)],82,[]⟩) ?_)
 clear h
 rintro i5 m8 h
 rw[Z2n]at h
 try dsimp only at h
 refine AW.st (seq ?_)
 refine R [0,1,5,14] ?_
 refine iz h (fun h=>?_) fun h=>?_
 ·obtain⟨u10,f12,h⟩:=oc h fun _=>Q0j
  obtain⟨u13,f15,h⟩:=oc h fun _=>Q0j
  obtain⟨r16,q17,h⟩:=obs h
  replace q17:=Q0d q17
  have f18:=fun hg=>(hk 0 26 rfl).ret (u10.words_,u13.words_) (q17 hg) rfl rfl
  obtain⟨r19,q20,h⟩:=obs h
  replace q20:=Q0d q20
  have f21:=fun hg=>(hk 1 10 rfl).ret (u10.cmd_,u13.cmd_) (q20 hg) rfl rfl
  refine skip (seq ?_)
  refine block (seq ?_)
  refine dreg mixed hS (ordp hpf (by kernel_rfl)) [(0,vWo a1),(1,vWo b2),(5,ai i5),(81,ab ((((!decide (u10.kind_=u13.kind_)||!decide (u10.text_=u13.text_))||!decide (u10.quoted_=u13.quoted_))||!r16)||!r19))] [] ?_ ?_
  ·clear h hk hS hX c
   exact dh1 (an f12.1 (an f12.2.1 (an f15.1 (an f15.2.1 (an pf_26 (an f18 (ap1 10 hpf f21)))))))
  refine ik h (fun h=>?_) fun h=>?_
  ·exact Rt h [4]
  refine G [0,1,5] ?_
  exact nx h
 exact exit (Rt h [4])
end Go.Abs.U48
