import Derived.Test.YtljahlbklgnfhaaGreatDoorA39
import Derived.Test.YtljahlbklgnfhaaGreatDoorA21
import Derived.Test.YtljahlbklgnfhaaGreatDoorA28
import Derived.Lib.LaidTab
set_option linter.unusedVariables false
set_option linter.unusedSimpArgs false
set_option linter.defProp false
namespace Go.Abs
def RUN0:=And.intro @K2z (And.intro @K2y (And.intro @X0u (And.intro @K1p (And.intro @X8i (And.intro @X4o (And.intro @Q8a.eq_1 (And.intro @aop.eq_1 (And.intro @qval.eq_1 (And.intro @qval.eq_2 (And.intro @qval.eq_3 (And.intro @qval.eq_4 (And.intro @qval.eq_5 (And.intro @qval.eq_6 (And.intro @qval.eq_7 (And.intro @qval.eq_8 (And.intro @qval.eq_9 (And.intro @qval.eq_10 (And.intro @qval.eq_11 (@qval.eq_12)))))))))))))))))))
def RUN1:=And.intro @qval.eq_13 (And.intro @qval.eq_14 (And.intro @qval.eq_15 (And.intro @qval.eq_16 (And.intro @qval.eq_17 (And.intro @K5p (And.intro @K1r (And.intro @K5x (And.intro @ev.eq_1 (And.intro @ev.eq_2 (And.intro @ev.eq_3 (And.intro @put.eq_1 (And.intro @put.eq_2 (And.intro @bind_some (And.intro @J4t (And.intro @J9m (And.intro @X2s (And.intro @enum.eq_1 (And.intro @enum.eq_2 (@Option.map_some.{0,0})))))))))))))))))))
def RUN2:=And.intro @Option.bind_some.{0,0} (And.intro @Q7o.eq_1 (And.intro @Q7o.eq_2 (And.intro @Q7o.eq_3 (And.intro @Q7o.eq_4 (And.intro @Q7o.eq_5 (And.intro @Q7o.eq_6 (And.intro @pbin.eq_1 (And.intro @pbin.eq_2 (And.intro @pbin.eq_3 (And.intro @pbin.eq_4 (And.intro @pbin.eq_5 (And.intro @pbin.eq_6 (And.intro @pbin.eq_7 (And.intro @pbin.eq_8 (And.intro @pbin.eq_9 (And.intro @pbin.eq_10 (And.intro @pbin.eq_11 (And.intro @pbin.eq_12 (@pbin.eq_13)))))))))))))))))))
def RUN3:=And.intro @pbin.eq_14 (And.intro @pbin.eq_15 (And.intro @pbin.eq_16 (And.intro @pbin.eq_17 (And.intro @pbin.eq_18 (And.intro @pbin.eq_19 (And.intro @pbin.eq_20 (And.intro @pbin.eq_21 (And.intro @pbin.eq_22 (And.intro @pbin.eq_23 (And.intro @pbin.eq_24 (And.intro @pbin.eq_25 (And.intro @pbin.eq_26 (And.intro @qbin.eq_1 (And.intro @qbin.eq_2 (And.intro @qbin.eq_3 (And.intro @qbin.eq_4 (And.intro @qbin.eq_5 (And.intro @qun.eq_1 (@qun.eq_2)))))))))))))))))))
def RUN4:=And.intro @qun.eq_3 (And.intro @qun.eq_4 (And.intro @qun.eq_5 (And.intro @nrm.eq_1 (And.intro @nrm.eq_2 (And.intro @nrm.eq_3 (And.intro @qlen.eq_1 (And.intro @qlen.eq_2 (And.intro @qlen.eq_3 (And.intro @qlen.eq_4 (And.intro @qlen.eq_5 (And.intro @Q1d.eq_1 (And.intro @Q1d.eq_2 (And.intro @Z4q.eq_1 (And.intro @Z4q.eq_2 (And.intro @Q3a.eq_1 (And.intro @Z5j.eq_1 (And.intro @Q3e.eq_1 (And.intro @Q6p.eq_1 (@Z3i.eq_1)))))))))))))))))))
def RUN5:=And.intro @Z3i.eq_2 (And.intro @Q7p.eq_1 (And.intro @Q7p.eq_2 (And.intro @Q7p.eq_3 (And.intro @toPV.eq_1 (And.intro @toPV.eq_2 (And.intro @toPV.eq_3 (And.intro @toPV.eq_4 (And.intro @toPV.eq_5 (And.intro @J3d.eq_1 (And.intro @ebox.eq_1 (And.intro @ebox.eq_2 (And.intro @ebox.eq_3 (And.intro @ebox.eq_4 (And.intro @ebox.eq_5 (And.intro @ebox.eq_6 (And.intro @ebox.eq_7 (And.intro @J3a.eq_1 (And.intro @zAV.eq_1 (@zAV.eq_2)))))))))))))))))))
def RUN6:=And.intro @one1.eq_1 (And.intro @one1.eq_2 (And.intro @one1.eq_3 (And.intro @one1.eq_4 (And.intro @one1.eq_5 (And.intro @one1.eq_6 (And.intro @one1.eq_7 (And.intro @Z6p.eq_1 (And.intro @Z6p.eq_2 (And.intro @Z6p.eq_3 (And.intro @PV.one.eq_1 (And.intro @PV.one.eq_2 (And.intro @X8a.eq_1 (And.intro @List.set_cons_zero.{0} (And.intro @List.set_cons_succ.{0} (And.intro @List.map_cons.{0,0} (And.intro @List.map_nil.{0,0} (And.intro @List.cons_append.{0} (And.intro @List.nil_append.{0} (@List.append_nil.{0})))))))))))))))))))
def RUN7:=And.intro @Option.some.injEq.{0} (And.intro @Nat.add_zero (And.intro @Nat.zero_le (And.intro @decide_true (And.intro @decide_false (And.intro @List.length_map.{0,0} (And.intro @List.drop_zero.{0} (And.intro @List.drop_succ_cons.{0} (And.intro @List.drop_nil.{0} (And.intro @List.length_cons.{0} (And.intro @List.length_nil.{0} (And.intro @Nat.zero_add (And.intro @List.take_succ_cons.{0} (And.intro @List.take_zero.{0} (And.intro @List.take_nil.{0} (And.intro @Nat.le_refl (And.intro @List.getElem?_toArray.{0} (And.intro @List.getElem?_cons_zero.{0} (And.intro @List.getElem?_cons_succ.{0} (@decide_eq_true_eq)))))))))))))))))))
def RUN8:=And.intro @and_true (And.intro @true_and (And.intro @and_self (And.intro @Bool.not_true (And.intro @Bool.not_false (And.intro @List.size_toArray.{0} (And.intro @Int.toNat_natCast (And.intro @Int.natCast_nonneg (And.intro @Bool.true_eq_false (And.intro @Bool.false_eq_true (And.intro @ge_iff_le.{0} (And.intro @gt_iff_lt.{0} (And.intro @List.getElem?_map.{0,0} (And.intro @X4g (And.intro @X4e (And.intro @X4f (And.intro @J9w (And.intro @J5i (And.intro @Z5o.eq_1 (@Z7r.eq_1)))))))))))))))))))
def RUN9:=And.intro @Z7r.eq_2 (And.intro @Q1g.eq_1 (And.intro @Q2y.eq_1 (And.intro @Q8q.eq_1 (And.intro @Q8q.eq_2 (And.intro @Q9o.eq_1 (And.intro @Q9o.eq_2 (And.intro @Q9o.eq_3 (And.intro @Q9o.eq_4 (And.intro @Q9o.eq_5 (And.intro @Q6c.eq_1 (And.intro @Q6c.eq_2 (And.intro @Z2p.eq_1 (And.intro @Option.isSome_some.{0} (And.intro @not_false_eq_true (And.intro @List.all_cons.{0} (And.intro @List.all_nil.{0} (And.intro @beq_self_eq_true.{0} (And.intro @Bool.and_true (And.intro @Nat.succ_ne_self (And.intro @Nat.one_ne_zero (And.intro @Nat.add_one_ne_zero (And.intro @Q1c.eq_1 (And.intro @Q1c.eq_2 (And.intro @J9d.eq_1 (And.intro @Q6c.eq_1 (@Q6c.eq_2))))))))))))))))))))))))))
def Y5y:=And.intro @List.length_append.{0} (And.intro @List.map_append.{0,0} (And.intro @K6h (And.intro @List.isEmpty_cons.{0} (And.intro @Bool.true_and (And.intro @Bool.false_and (And.intro @Bool.and_false (And.intro @Bool.true_or (And.intro @Bool.false_or (And.intro @Bool.or_true (@Bool.or_false))))))))))
def Y5x:=And.intro @qeq.eq_1 (And.intro @qeq.eq_2 (And.intro @pvEq.eq_1 (And.intro @pvEq.eq_2 (And.intro @pvEq.eq_3 (And.intro @Q2b.eq_1 (And.intro @Q2b.eq_2 @Option.map_none.{0,0}))))))
def Y5w:=And.intro @X2v (And.intro @J9o (And.intro @X2y (And.intro @J9p (And.intro @X2w (And.intro @J4w (And.intro X2x (And.intro @qmm.eq_1 (And.intro @mmL.eq_1 (And.intro @mmL.eq_2 (And.intro @V9p (And.intro @V9o (And.intro @Z5n.eq_1 (And.intro @Z5l.eq_1 (And.intro @Z5l.eq_2 (And.intro @Q2k.eq_1 (And.intro @Q2k.eq_2 (And.intro @Q2k.eq_3 (And.intro @Q2k.eq_4 (And.intro @Q2k.eq_5 (And.intro @Q2k.eq_6 (And.intro @X8c (And.intro @Q8r.eq_1 (And.intro @X6v (And.intro @X1t (And.intro @X1s (And.intro @List.length_set.{0} (And.intro @List.map_set.{0,0} @List.append_eq.{0})))))))))))))))))))))))))))
def Y5v:=And.intro @noS.eq_1 (And.intro @noS.eq_2 (And.intro @AV.isS.eq_3 (And.intro @AV.isS.eq_4 (And.intro @AV.isS.eq_6 (And.intro @AV.isS.eq_8 (And.intro @AV.isS.eq_9 (And.intro @AV.isS.eq_10 (And.intro @X1x (And.intro @rowAt.eq_1 (And.intro @Q1o.eq_1 (And.intro @Q1o.eq_2 (And.intro @Q1o.eq_3 (And.intro @Z6p.eq_3 (And.intro @Z1f.eq_1 (And.intro @Z1f.eq_2 @Option.map_some.{0,0})))))))))))))))
def RUNS:=And.intro Y5v (And.intro RUN0 (And.intro RUN1 (And.intro RUN2 (And.intro RUN3 (And.intro RUN4 (And.intro RUN5 (And.intro RUN6 (And.intro RUN7 (And.intro RUN8 (And.intro RUN9 (And.intro Y5x (And.intro Y5w (@Y5y)))))))))))))
def J6e:=And.intro G1i (And.intro G1o (And.intro G3d (And.intro G1p (And.intro G2x (And.intro G2d (And.intro G5r G2n))))))
def HBS:=And.intro @Bool.not_eq_false (And.intro @Bool.not_eq_true (And.intro @Bool.not_eq_true' (And.intro @Bool.not_eq_false' (And.intro @decide_eq_false_iff_not (And.intro @decide_eq_true_eq @Decidable.not_not)))))
def CLOS:=And.intro K6c (And.intro K6b (And.intro J6e (And.intro @Bool.or_eq_true (And.intro @Bool.and_eq_true (And.intro @Bool.not_eq_true' (And.intro @Bool.or_eq_false_iff (And.intro @Bool.and_eq_false_imp (And.intro @decide_eq_true_eq (And.intro @decide_eq_false_iff_not (And.intro @true_and (And.intro Bool.true_eq_false (And.intro G2z (And.intro @false_iff (And.intro @true_iff (And.intro @iff_true @iff_false)))))))))))))))
end Go.Abs
namespace Go.Abs
open Go.RowKit
def ekB:EK->TypeDesc->Bool
 | .bool,.bool=>true
 | .str,.string=>true
 | .int,.int _=>true
 | _,_=>false
theorem X8b{k:EK}{d:TypeDesc}(h:ekB k d=true):k.fits d:=by
 cases k<;>cases d<;>simp_all [ekB,EK.fits]
def Q3i(P:Program):Nat->Nat->List Field->List EK->Bool
 | _,_,[],[]=>true
 | n+1,i,f::b,ks=>f.name != "_"&&f.offset==i&&(match P.underlying f.type with
   | some (.struct sub)=>(match P.info? f.type with
     | some a=>!P.stoodInHeld f.type&&decide (a.size<=ks.length)&&Q3i P n 0 sub.toList (ks.take a.size)&&Q3i P n (i+a.size) b (ks.drop a.size)
     | none=>false)
   | some d=>(match ks with
     | k::ks=>ekB k d&&Q3i P n (i+1) b ks
     | []=>false)
   | none=>false)
 | _,_,_,_=>false
theorem Q3h{P:Program}:∀ {n i:Nat} {b:List Field} {ks:List EK},Q3i P n i b ks=true->FitsF P n b i ks
 | n,i,[],[],_=>.nil n i
 | 0,i,[],k::ks,h=>by simp[Q3i]at h
 | n+1,i,[],k::ks,h=>by simp[Q3i]at h
 | 0,i,f::b,ks,h=>by simp[Q3i]at h
 | n+1,i,f::b,ks,h=>by
   simp only[Q3i,G0k,G5x,G3h]at h
   obtain⟨⟨e,g⟩,a⟩:=h
   split at a
   ·rename_i sub hd
    split at a
    ·rename_i j m
     simp only[G0k,G4q,G0s]at a
     obtain⟨⟨⟨g1,o⟩,g3⟩,g4⟩:=a
     have l:(ks.take j.size).length=j.size:=by rw[G1h];omega
     have:=FitsF.sub (P:=P) e g hd g1 m l.symm (Q3h g3) (by rw[l];exact Q3h g4)
     rwa [G1v]at this
    cases a
   ·rename_i d p hd
    split at a
    ·rename_i k ks
     simp only[G0k]at a
     exact .one e g hd (X8b a.1) (Q3h a.2)
    cases a
   cases a
def J0r(P:Program)(t:TypeId)(ks:List EK):Bool:=
 match P.underlying t with
 | some (.struct fields)=>!P.stoodInHeld t&&!P.eqGuardType P.depth t&&Q3i P 100 0 fields.toList ks
 | _=>false
theorem J0q{P:Program}{t:TypeId}{ks:List EK}(h:J0r P t ks=true):EqOne P t ks:=by
 unfold J0r at h
 split at h
 ·rename_i fields a
  simp only[G0k,G4q]at h
  obtain⟨⟨b,d⟩,e⟩:=h
  exact⟨fields,a,b,d,100,by omega,Q3h e⟩
 cases h
def X3v(tab:List (TypeId×List EK))(t:TypeId):Option (List EK):=(tab.find? λp=>p.1==t).map (·.2)
theorem J3b{P:Program}{tab:List (TypeId×List EK)}(h:tab.all (λp=>J0r P p.1 p.2)=true){t:TypeId}{ks:List EK}(a:X3v tab t=some ks):EqOne P t ks:=by
 unfold X3v at a
 obtain⟨p,b,e⟩:=G0g.1 a
 have g:=G0t.1 h p (G6t b)
 have d:=G7a b
 simp only[G3h]at d
 subst d e
 exact J0q g
end Go.Abs
namespace Go.Abs
theorem J4z{H:Type}{enc:TypeId×Value->H}{P:Program}{w:World}{base:Nat}{b:Nat->Bool}{d:Bool}{a:Nat}{t:TypeId}{ms:Array (String×TypeId)}{cs:List Value}{x:DataW H×List MemPlace}(e:P.underlying t=some (.interface ms))
 (h:DataW.trod enc P w base b d a t cs=some x):∃ev,cs=[ev]/\(ev=.nilIface\/∃g i,ev=.iface g i):=by
 cases a with
 | zero=>simp[DataW.trod]at h
 | succ n=>
   unfold DataW.trod at h
   rw[e]at h
   split at h<;>simp_all
theorem Z3n{P:Program}{w:World}{n:String}{d:DataW Unit}{g t:Nat}{ms:Array (String×TypeId)}(i:P.globalNamed n=some g)(j:(P.globals[g]?).map (·.type)=some t)(k:P.underlying t=some (.interface ms)):
 ∀ {l:List (String×DataW Unit)} {ps:List MemPlace},DataW.LaidVars P w l ps->(n,d)∈l->∃ev,w.cell? ⟨g,0,none⟩=some ev/\(ev=.nilIface\/∃o s,ev=.iface o s)
 | [],_,_,b=>by cases b
 | (D,F)::r,ps,h,b=>by
   obtain⟨g',H,cs,I,p,q,m,u,a,x,y,_⟩:=h
   rcases G1q.1 b with e|e
   ·cases e
    obtain rfl:=G3g (i.symm.trans m)
    obtain rfl:=G3g (j.symm.trans u)
    obtain⟨ev,A,hk⟩:=J4z k x
    refine⟨ev,?_,hk⟩
    unfold World.var? at a
    rw[m]at a
    simp only[G0a]at a
    split at a
    ·rename_i cs' T z C
     simp only[G0b]at a
     subst a
     have:cs'=#[ev]:=by
      apply G5h
      simpa using A
     simp[World.cell?,C,this]
    cases a
   exact Z3n i j k y e
theorem J7d{P:Program}{w:World}{n:String}{d:DataW Unit}{l:List (String×DataW Unit)}{g t:Nat}{ms:Array (String×TypeId)}(h:laidMetH P l w)(a:(l.all λx=>x.2.handleName?.isNone)=true)(b:(n,d)∈l)(e:P.globalNamed n=some g)(i:(P.globals[g]?).map (·.type)=some t)
 (j:P.underlying t=some (.interface ms)):∃ev,w.cell? ⟨g,0,none⟩=some ev/\(ev=.nilIface\/∃k m,ev=.iface k m):=by
 rw[MakeChecks.laidMetH_plain _ _ _ a]at h
 obtain⟨ps,o,_⟩:=h
 exact Z3n e i j o b
theorem Z3m{P:Program}{w:World}{n:String}{k:IntKind}{zs:List Int}{g t e:TypeId}{m:Nat}(d:P.globalNamed n=some g)(i:(P.globals[g]?).map (·.type)=some t)(j:P.underlying t=some (.array m e))(o:P.underlying e=some (.int k))(s:P.cellsOf e=1)(u:P.cellsOf t=m):
 ∀ {l:List (String×DataW Unit)} {ps:List MemPlace},DataW.LaidVars P w l ps->(n,Lib.tabData k zs)∈l->Lib.TabIs P w n k zs
 | [],_,_,a=>by cases a
 | (D,F)::r,ps,h,a=>by
   obtain⟨g',H,cs,I,p,q,x,y,z,A,C,_⟩:=h
   rcases G1q.1 a with b|b
   ·cases b
    obtain rfl:=G3g (d.symm.trans x)
    obtain rfl:=G3g (i.symm.trans y)
    unfold Lib.TabIs
    rw[z,<-Lib.cells_of_tab j o s u A]
   exact Z3m d i j o s u C b
theorem X7m{P:Program}{w:World}{n:String}{k:IntKind}{zs:List Int}{l:List (String×DataW Unit)}{g t e:TypeId}{m:Nat}(h:laidMetH P l w)(a:(l.all λx=>x.2.handleName?.isNone)=true)(b:(n,Lib.tabData k zs)∈l)(d:P.globalNamed n=some g)(i:(P.globals[g]?).map (·.type)=some t)
 (j:P.underlying t=some (.array m e)) (o:P.underlying e=some (.int k)) (p:P.cellsOf e=1) (q:P.cellsOf t=m):Lib.TabIs P w n k zs:=by
 rw[MakeChecks.laidMetH_plain _ _ _ a]at h
 obtain⟨ps,r,_⟩:=h
 exact Z3m d i j o p q r b
theorem J4a{P:Program}{w w':World}{n:String}{k:IntKind}{zs:List Int}{g:Nat}(a:P.globalNamed n=some g)(h:Lib.TabIs P w n k zs)(hb:w'.heap[g]?=w.heap[g]?):Lib.TabIs P w' n k zs:=by
 unfold Lib.TabIs World.var? at h |-
 rw[a]at h |-
 simp only[G0a]at h |-
 rw[hb]
 exact h
end Go.Abs
namespace Go.Abs
open Go.RowKit Go.Shelf Go.Proofs
section
variable {P:Program}{w:World}
theorem Z2a{ops:Array Oper}{rest:List Oper}{o:Oper}{a:Act}{Q:Exit->Act->World->Prop}(g:o.guard=none)(sl x:Operand)(t:TypeId)
 (j:o.op=.call { callee:=.builtin .append,args:=#[sl,x],argTypes:=#[t,t] }) (e:TypeId) (i:TypeInfo) (z:Value) (k:P.underlying t=some (.slice e)) (l:P.info? e=some i) (m:i.zero=some z) (p:z.cells.size=i.size)
 (b:i.size=1) (q:i.bytes=1) (v:Value) (n:Nat) (xs:List Value) (hs:a.eval sl=v) (r:w.ownsRow 0 e 1 v n xs) (u y:Value) (s:a.eval x=y) (A:Src w 1 1 y [u])
 (C:n+1<=maxLen) (I:n+1<=140737488355328)
 (h:∀v' w',w'.ownsRow 0 e 1 v' (n+1) (xs++[u])->Grew w w' v v'->wpList P ops Q rest (a.put o.dst v') w'):wpList P ops Q (o::rest) a w:=by
 refine wpList_plain g λK D=>?_
 obtain⟨v',w',F,d,H,_⟩:=Z2r (P:=P) (w:=w) t o.type e i z k l m p v n xs (by rw[b];exact r) y 1 [u] (by rw[b];exact A) C (by rw[q];omega)
 rw[b]at d
 unfold Oper.wp execOp
 simp only[j,resolve,invoke,builtin,Sem.run_bind,Sem.run_pure,Result.andThen_ok,List.map_toArray,G2g,G2h,hs,s,F]
 exact D _ _ (h v' w' d H)
end
section
variable {P:Program}{ρ:Ren}
set_option maxHeartbeats 2000000 in
set_option maxRecDepth 100000 in
theorem J3v(L:Lays.n167 P ρ)(X:Builder.Extra P ρ){b:Nat}{p v:Value}{bs:List Value}{w:World}(c:Int)(h:Bld (ρ.t 72) (ρ.t 5) b p v bs w)(ac:bs.length+1<=140737488355328):
 Calls P (ρ.f 167) #[.pointer (some ⟨b,0,none⟩),.int .u8 c] w λe w'=>e=.returned .nilIface/\Wrote (ρ.t 72) (ρ.t 5) b v (bs++[.int .u8 c]) w w':=by
 obtain⟨i0,K,M,y,N⟩:=info_parts X.infoByte
 have mixed:=L.mixed
 have t72:=L.t72;have a72:=L.a72;have z72:=L.z72;have v72:=L.v72;have ad:=run_underlying L.t72
 have t70:=L.t70;have a70:=L.a70;have z70:=L.z70;have v70:=L.v70;have ae:=run_underlying L.t70
 have t5:=L.t5;have a5:=L.a5;have z5:=L.z5;have v5:=L.v5;have u5:=run_underlying L.t5
 have t37:=L.t37;have a37:=L.a37;have z37:=L.z37;have v37:=L.v37;have ag:=run_underlying L.t37
 have t9:=L.t9;have a9:=L.a9;have z9:=L.z9;have v9:=L.v9;have u9:=run_underlying L.t9
 have t4:=L.t4;have a4:=L.a4;have z4:=L.z4;have v4:=L.v4;have u4:=run_underlying L.t4
 have t164:=L.t164;have a164:=L.a164;have z164:=L.z164;have v164:=L.v164;have ak:=run_underlying L.t164
 have al:∀args w,(callFunc (ρ.f 240) args).run P w=.ok (.enter (ρ.f 240) args) w:=enters_of L.f240 (by kernel_rfl) rfl
 go_enter L.f167,Body.n167_ntmps ρ
 go_wp2_with (go_at_fn (ρ.f 240);refine(Z6k { L with } X.toX72 h).mono ?_)
 rintro e w1 ⟨rfl,m,O,Q,S,hs1,T⟩
 have am:w.heap.size<=w1.heap.size:=by omega
 have aq:w1.heap.size<=w.heap.size:=by omega
 clear hs1
 have s:=m.here
 have z:=m.owns
 have U:=m.apart
 have V:b<w1.heap.size:=m.lt
 have c0:w1.cell? ⟨b,0,none⟩=some (.pointer (some ⟨b,0,none⟩)):=by rw[Lib.cell_of_heap s];rfl
 have A:w1.cell? ⟨b,1,none⟩=some v:=by rw[Lib.cell_of_heap s];rfl
 have W:∀k,v.ownBlock=some k->k<w1.heap.size:=λk hk=>by
  rcases z.2 with⟨a,_⟩|⟨g,cap,C,a,_,t,_⟩
  ·rw[a]at hk
   cases hk
  rw[a]at hk
  injection hk with hk
  subst hk
  exact(G1b.1 t).1
 go_wp2_with (at_builtin;refine Z2a rfl _ _ (ρ.t 37) rfl (ρ.t 5) i0 (.int .u8 0) L.t37 K M (by rw[y];rfl) y N v bs.length bs rfl ?A (.int .u8 c) (.slice (some ⟨w1.heap.size,0,none⟩) 1 1) rfl ?c2 ?c3 ?c4 ?_)
 case A=>exact Q0w z λk hk=>Lib.alloc_old w1 _ k (W k hk)
 case c2=>
  refine⟨rfl,λu D=>by simp at D;subst D;rfl,.inr ⟨⟨w1.heap.size,0,none⟩,1,rfl,λj u n=>?_⟩⟩
  match j,n with
  | 0,n=>simp at n;subst n;simp[Addr.add]
 case c3=>unfold maxLen;omega
 case c4=>omega
 intro v' d q i
 have r:∀o,(w1.alloc o).heap.size=w1.heap.size+1:=λo=>by simp
 have l:d.heap[b]?=some (.cells #[.pointer (some ⟨b,0,none⟩),v] (ρ.t 72) (0,0)):=by
  rw[i.old (by rw[r];omega) U,Lib.alloc_old w1 _ b V]
  exact s
 have d0:d.cell? ⟨b,0,none⟩=some (.pointer (some ⟨b,0,none⟩)):=by rw[Lib.cell_of_heap l];rfl
 have d1:d.cell? ⟨b,1,none⟩=some v:=by rw[Lib.cell_of_heap l];rfl
 have f1:d.frozen? ⟨b,1,none⟩=false:=Lib.frozen_of_heap l 1
 obtain⟨F,H,cap,rfl⟩:∃F H cap,v'=.slice F H cap:=by
  rcases q.2 with⟨a,_⟩|⟨g,cap,C,a,_⟩
  ·exact⟨_,_,_,a⟩
  exact⟨_,_,_,a⟩
 have I:=Lib.ownBlock_ne q l X.neB5
 have Y:=i.size
 rw[r]at Y
 go_wp2
 go_ret
 refine⟨rfl,i.os.trans O,i.tape.trans Q,i.output.trans S,?_,λk hk J aa=>?_,?_⟩
 ·show w.heap.size<=(d.setCell ⟨b,1,none⟩ _).heap.size
  rw[Q4a]
  omega
 ·show(d.setCell ⟨b,1,none⟩ _).heap[k]?=_
  rw[Q2p _ _ _ _ _ J,i.old (by rw[r];omega) aa,Lib.alloc_old w1 _ k (by omega),T k J]
 refine⟨_,J1t l,?_,I,λk hk=>⟨?_,?_⟩⟩
 ·have:(bs++[Value.int .u8 c]).length=bs.length+1:=by simp
  rw[this]
  exact Q0w q λk hk=>Q2p _ _ _ _ _ (λe=>I (by rw[hk,e]))
 ·rcases i.blk hk with x|x
  ·exact .inl x
  rw[r]at x
  exact .inr (by omega)
 show k<(d.setCell ⟨b,1,none⟩ _).heap.size
 rw[Q4a]
 rcases q.2 with⟨a,_⟩|⟨g,cap,C,a,_,t,_⟩
 ·rw[a]at hk
  cases hk
 rw[a]at hk
 injection hk with hk
 subst hk
 exact(G1b.1 t).1
end
section
variable {E:Env}{f:FuncId}
theorem Good.writeByte(I:∀ (b:Nat) (p v:Value) (bs:List Value) (w:World) (c:Int),Bld (E.bT.getD 0) E.be b p v bs w->bs.length+1<=140737488355328->
 Calls E.P f #[.pointer (some ⟨b,0,none⟩),.int .u8 c] w λe w'=>e=.returned .nilIface/\Wrote (E.bT.getD 0) E.be b v (bs++[.int .u8 c]) w w')
 (b:List UInt8) (c:UInt8) (h:b.length+1<=140737488355328):Good E f [.ref 0 0,.pv (.int .u8 c.toNat)] [.bld b] [.pv .nil] [.bld (b++[c])]:=by
 intro w Φ γ J q K x
 match J,K with
 | [c0,L],_=>
   obtain⟨g,blk,p,v,rfl,rfl,M,N,y,z,A⟩:=J5k q (x 0 c0 _ rfl rfl)
   have r:=Q2t (Q0o (x 1 L _ rfl rfl))
   subst r
   refine(I blk p v _ w c.toNat y (by rw[Lib.byteCells_length];exact h)).mono λe w' ⟨O,d⟩=>?_
   obtain⟨v',Q,S,T,C⟩:=d.now
   have m:∀k,k∈g.own↔k=blk\/v.ownBlock=some k:=λk=>by rw[N];simp
   have U:∀k,k<w.heap.size->k∉g.own->w'.heap[k]?=w.heap[k]?:=λk hk D=>d.old k hk (λe=>D ((m k).2 (.inl e))) (λe=>D ((m k).2 (.inr e)))
   have V:∀k,k∈g.own->∀j,¬ Φ k j:=λk hk j=>by
    rcases(m k).1 hk with rfl|h
    ·exact z j
    exact A k h j
   have W:=q.setObj (o':=.bld (b++[c])) (g':=⟨g.v,blk::v'.ownBlock.toList⟩) (l:=0) (g:=g) (o:=.bld b) rfl rfl U d.size d.os d.tape d.output (λ_ _ h=>h) (λ_ _ h _ _=>h) (λk j h=>G1f (q.phi k j h) d.size)
    (λk j h hk=>absurd h (V k hk j)) (λk hk=>by
      simp only[G1q,Option.mem_toList]at hk
      rcases hk with rfl|hk
      ·exact⟨.inl ((m k).2 (.inl rfl)),G1f y.lt d.size⟩
      obtain⟨r,X⟩:=C k hk
      exact⟨r.elim (λh=>.inl ((m k).2 (.inr h))) .inr,X⟩) (.inl rfl) (λe sz n h=>by cases h)
    (λhE=>by
      refine⟨blk,.pointer (some ⟨blk,0,none⟩),v',M,rfl,.inr rfl,Q,?_,T,z,λk hk j F=>?_⟩
      ·have H:(b++[c]).map (λu=>Value.int .u8 u.toNat)=Lib.byteCells b++[.int .u8 c.toNat]:=by
        rw[List.map_append]
        rfl
       have Y:(Lib.byteCells b++[Value.int .u8 c.toNat]).length=(b++[c]).length:=by rw[<-H,G1m]
       rw[H,<-Y]
       exact S
      rcases(C k hk).1 with h|h
      ·exact A k h j F
      have:=q.phi k j F
      omega)
   exact⟨[.nilIface],_,_,O,W,rfl,λi u a s t=>by
    match i,s,t with
    | 0,s,t=>cases s;cases t;exact .pv .nil⟩
end
end Go.Abs
