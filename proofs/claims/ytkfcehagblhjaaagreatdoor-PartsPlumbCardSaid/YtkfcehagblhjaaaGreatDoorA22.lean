import Derived.Test.YtkfcehagblhjaaaGreatDoorA21
set_option linter.unusedVariables false
set_option linter.unusedSimpArgs false
set_option linter.defProp false
namespace Go.Abs
open Go.RowKit
theorem ev_upd{t:Nat→AV}{d:Nat}{v:AV}{x:Operand}(h:x≠.tmp d):ev (upd t d v) x=ev t x:=by
 cases x with
 | tmp i=>
   show(if i=d then v else t i)=t i
   rw[if_neg (fun e=>h (by rw[e]))]
 | _=>rfl
theorem upd_comm{t:Nat→AV}{d e:Nat}{v u:AV}(h:d≠e):upd (upd t d v) e u=upd (upd t e u) d v:=by
 funext i
 unfold upd
 by_cases h1:i=e
 ·subst h1
  have:¬ i=d:=fun e=>h e.symm
  simp[this]
 simp[h1]
section
variable {E:Env}{O:Orc}
theorem qval_congr{T:Nat→Option TI}{t t':Nat→AV}{H:List AObj}(op:Op)(h:∀x∈op.operands,ev t x=ev t' x):qval T t H op=qval T t' H op:=by
 have pairs:∀ps:Array (Nat×Operand),(∀x∈(ps.toList.map (·.2)),ev t x=ev t' x)→(ps.toList.map fun p=>(p.1,ev t p.2))=(ps.toList.map fun p=>(p.1,ev t' p.2)):=fun ps hp=>
  List.map_congr_left fun p hm=>by rw[hp p.2 (List.mem_map.2 ⟨p,hm,rfl⟩)]
 cases op<;>simp only[Op.operands]at h<;>simp only[qval]
 case build ty ps=>rw[pairs ps fun x hx=>h x (by simpa using hx)]
 case slice ty x lo hi mx=>cases lo<;>cases hi<;>cases mx<;>simp_all
 case call c=>
  obtain⟨callee,args,ats⟩:=c
  have ha:∀x∈args.toList,ev t x=ev t' x:=fun x hx=>h x (by
   simp only[Call.operands,Array.mem_append]
   exact .inr (by simpa using hx))
  cases callee with
  | value f=>rfl
  | invoke r m=>rfl
  | builtin b=>
    cases b with
    | len=>
      show(match args.toList,ats.toList with
       | [x],[ty]=>qlen T H ty (nrm (ev t x))
       | _,_=>none)=(match args.toList,ats.toList with
       | [x],[ty]=>qlen T H ty (nrm (ev t' x))
       | _,_=>none)
      generalize args.toList=l at ha
      generalize ats.toList=m
      split
      ·rw[ha _ (by simp)]
      rfl
    | _=>rfl
 case makeFunc fn first caps=>
  cases fn with
  | func f=>
    have hc:caps.toList.map (ev t)=caps.toList.map (ev t'):=List.map_congr_left fun x hx=>h x (by simp;exact .inr (by simpa using hx))
    show(if first.size=0 then(refsOf (caps.toList.map (ev t))).map (AV.fn f)else none)=(if first.size=0 then(refsOf (caps.toList.map (ev t'))).map (AV.fn f)else none)
    rw[hc]
  | _=>rfl
 all_goals(first|rfl|(simp_all;done))
theorem aop_congr{t t':Nat→AV}{n:Nat}{H:List AObj}(o:Oper)(h:∀x∈o.op.operands,ev t x=ev t' x):aop E O ⟨t,n,H⟩ o=aop E O ⟨t',n,H⟩ o:=by
 obtain⟨dst,op,type,pos,after,guard⟩:=o
 have hq:=qval_congr (T:=E.T) (H:=H) op h
 have pairs:∀ps:Array (Nat×Operand),(∀x∈(ps.toList.map (·.2)),ev t x=ev t' x)→(ps.toList.map fun p=>(p.1,ev t p.2))=(ps.toList.map fun p=>(p.1,ev t' p.2)):=fun ps hp=>
  List.map_congr_left fun p hm=>by rw[hp p.2 (List.mem_map.2 ⟨p,hm,rfl⟩)]
 cases op<;>simp only[Op.operands]at h<;>simp only[aop]
 case buildSlice ty len ps=>rw[pairs ps fun x hx=>h x (by simpa using hx)]
 case build ty ps=>rw[pairs ps fun x hx=>h x (by simpa using hx),hq]
 case makeMap ty r=>cases r<;>simp_all
 case call c=>
  obtain⟨callee,args,ats⟩:=c
  have ha:∀x∈args.toList,ev t x=ev t' x:=fun x hx=>h x (by
   simp only[Call.operands,Array.mem_append]
   exact .inr (by simpa using hx))
  have hm:args.toList.map (ev t)=args.toList.map (ev t'):=List.map_congr_left ha
  cases callee with
  | value f=>
    cases f with
    | func f=>simp only[hm]
    | tmp i=>
      have hi:t i=t' i:=h (.tmp i) (by simp[Call.operands])
      simp only[hm,hi]
    | _=>exact congrArg (Option.map fun r=>(r,H)) hq
  | invoke r m=>exact congrArg (Option.map fun r=>(r,H)) hq
  | builtin b=>
    cases b with
    | append=>
      show(match args.toList,ats.toList with
       | [x,y],[t1,t2]=>if t1=t2 then eappend E H t1 (ev t x) (ev t y)else eappendS E H t1 t2 (ev t x) (ev t y)
       | _,_=>none)=(match args.toList,ats.toList with
       | [x,y],[t1,t2]=>if t1=t2 then eappend E H t1 (ev t' x) (ev t' y)else eappendS E H t1 t2 (ev t' x) (ev t' y)
       | _,_=>none)
      generalize args.toList=l at ha
      generalize ats.toList=m
      split
      ·rw[ha _ (by simp),ha _ (by simp)]
      rfl
    | min=>simp only[hm]
    | max=>simp only[hm]
    | unsafeSliceData=>
      show(match args.toList with
       | [x]=>(qsdata H (ev t x)).map fun r=>(r,H)
       | _=>none)=(match args.toList with
       | [x]=>(qsdata H (ev t' x)).map fun r=>(r,H)
       | _=>none)
      generalize args.toList=l at ha
      split
      ·rw[ha _ (by simp)]
      rfl
    | unsafeString=>
      show(match args.toList,ats.toList with
       | [x,y],[pt,_]=>(qustr E H pt (ev t x) (ev t y)).map fun r=>(r,H)
       | _,_=>none)=(match args.toList,ats.toList with
       | [x,y],[pt,_]=>(qustr E H pt (ev t' x) (ev t' y)).map fun r=>(r,H)
       | _,_=>none)
      generalize args.toList=l at ha
      generalize ats.toList=m
      split
      ·rw[ha _ (by simp),ha _ (by simp)]
      rfl
    | _=>exact congrArg (Option.map fun r=>(r,H)) hq
 all_goals(first|(rw[hq];done)|(simp_all;done))
def okind(pf:FuncId→Bool)(o:Oper):Nat:=
 match o.op with
 | .move _|.assign _|.pick _ _ _|.binOp _ _ _ _ _|.unOp _ _ _|.fieldAddr _ _ _|.extract _ _|.nilCheck _|.field _ _ _|.makeInterface _ _=>0
 | .convert _ _ _|.load _ _|.indexAddr _ _ _|.index _ _ _|.slice _ _ _ _ _|.build _ _|.lookup _ _ _ _=>1
 | .call ⟨.builtin .len,_,_⟩=>1
 | .call ⟨.builtin .min,_,_⟩=>0
 | .call ⟨.builtin .max,_,_⟩=>0
 | .call ⟨.value (.func f),_,_⟩=>if pf f then 1 else 3
 | .buildSlice _ len _=>if len==0 then 2 else 1
 | .alloc _|.box _ _|.makeMap _ none|.makeSlice _ _ _=>2
 | _=>3
theorem kind0{o:Oper}(h:okind O.pf o=0){t:Nat→AV}{n:Nat}{H H1:List AObj}{r:AV}(hr:aop E O ⟨t,n,H⟩ o=some (r,H1)):H1=H∧∀H2,aop E O ⟨t,n,H2⟩ o=some (r,H2):=by
 obtain⟨dst,op,type,pos,after,guard⟩:=o
 have key:∀ (q:List AObj→Option AV),(∀H H',q H=q H')→((q H).map fun r=>(r,H))=some (r,H1)→H1=H∧∀H2,((q H2).map fun r=>(r,H2))=some (r,H2):=by
  intro q hq hm
  obtain⟨x,hx,he⟩:=Option.map_eq_some_iff.1 hm
  injection he with e1 e2
  subst e1 e2
  exact⟨rfl,fun H2=>by rw[hq H2 H,hx];rfl⟩
 cases op with
 | call c=>
   obtain⟨callee,args,ats⟩:=c
   cases callee with
   | value f=>
     cases f with
     | func f=>
       simp only[okind]at h
       split at h<;>cases h
     | _=>cases h
   | invoke r m=>cases h
   | builtin b=>
     cases b with
     | min=>exact key (fun _=>qmm false (args.toList.map (ev t))) (fun _ _=>rfl) hr
     | max=>exact key (fun _=>qmm true (args.toList.map (ev t))) (fun _ _=>rfl) hr
     | _=>cases h
 | makeMap ty r=>cases r<;>cases h
 | move x=>exact key (fun H=>qval E.T t H (.move x)) (fun _ _=>rfl) hr
 | assign x=>exact key (fun H=>qval E.T t H (.assign x)) (fun _ _=>rfl) hr
 | pick a b c=>exact key (fun H=>qval E.T t H (.pick a b c)) (fun _ _=>rfl) hr
 | binOp a b c d e=>
   simp only[aop]at hr ⊢
   cases hn:isNil d with
   | true=>
     simp only[hn,if_true]at hr ⊢
     exact key (fun _=>qnil2 E.T a b (ev t c)) (fun _ _=>rfl) hr
   | false=>
     simp only[hn,Bool.false_eq_true,if_false]at hr ⊢
     cases hq:E.eqT b with
     | some ks=>
       simp only[hq]at hr ⊢
       exact key (fun _=>qeq ks a (ev t c) (ev t d)) (fun _ _=>rfl) hr
     | none=>
       simp only[hq]at hr ⊢
       exact key (fun _=>qbin E.T a b (ev t c) (ev t d)) (fun _ _=>rfl) hr
 | unOp a b c=>exact key (fun H=>qval E.T t H (.unOp a b c)) (fun _ _=>rfl) hr
 | fieldAddr a b c=>exact key (fun H=>qval E.T t H (.fieldAddr a b c)) (fun _ _=>rfl) hr
 | extract a b=>exact key (fun H=>qval E.T t H (.extract a b)) (fun _ _=>rfl) hr
 | nilCheck a=>exact key (fun H=>qval E.T t H (.nilCheck a)) (fun _ _=>rfl) hr
 | field a b c=>exact key (fun _=>qfield E a c (ev t b)) (fun _ _=>rfl) hr
 | makeInterface a b=>exact key (fun _=>qmkI E a (ev t b)) (fun _ _=>rfl) hr
 | buildSlice a b c=>
   simp only[okind]at h
   split at h<;>cases h
 | _=>cases h
theorem kind1{o:Oper}(h:okind O.pf o=1){t:Nat→AV}{n:Nat}{H H1:List AObj}{r:AV}(hr:aop E O ⟨t,n,H⟩ o=some (r,H1)):H1=H:=by
 obtain⟨dst,op,type,pos,after,guard⟩:=o
 have key:∀ (q:Option AV),(q.map fun r=>(r,H))=some (r,H1)→H1=H:=by
  intro q hm
  obtain⟨x,hx,he⟩:=Option.map_eq_some_iff.1 hm
  injection he with e1 e2
  exact e2.symm
 cases op with
 | call c=>
   obtain⟨callee,args,ats⟩:=c
   cases callee with
   | value f=>
     cases f with
     | func f=>
       simp only[okind]at h
       split at h
       ·rename_i hp
        simp only[aop,hp,if_true]at hr
        exact key _ hr
       cases h
     | _=>cases h
   | invoke r m=>cases h
   | builtin b=>
     cases b with
     | len=>exact key (qval E.T t H (.call ⟨.builtin .len,args,ats⟩)) hr
     | _=>cases h
 | makeMap ty r=>cases r<;>cases h
 | convert a b c=>exact key (qval E.T t H (.convert a b c)) hr
 | load a b=>exact key (qval E.T t H (.load a b)) hr
 | indexAddr a b c=>exact key (qval E.T t H (.indexAddr a b c)) hr
 | index a b c=>exact key (qval E.T t H (.index a b c)) hr
 | slice a b c d e=>exact key (qval E.T t H (.slice a b c d e)) hr
 | buildSlice a b c=>
   have hb:(b==0)=false:=by
    cases hb:b==0 with
    | false=>rfl
    | true=>simp[okind,hb]at h
   simp only[aop,hb,Bool.false_and,Bool.false_eq_true,if_false,ebuildSlice]at hr
   split at hr
   ·split at hr
    ·split at hr
     ·split at hr
      ·injection hr with hr
       injection hr with h1 h2
       exact h2.symm
      cases hr
     cases hr
    cases hr
   cases hr
 | build a b=>
   simp only[aop]at hr
   split at hr
   ·exact key _ hr
   exact key _ hr
 | lookup a b c d=>exact key (qval E.T t H (.lookup a b c d)) hr
 | _=>cases h
def Goes(H H':List AObj):Prop:=∀ (l:Nat) o,H[l]?=some o→H'[l]?=some o
def Goesv(H H':List AObj):Prop:=∀ (l:Nat) o,H[l]?=some o→H'[l]?=some o∨∃cs,o=.var cs
theorem Goes.v{H H':List AObj}(h:Goes H H'):Goesv H H':=fun l o ho=>.inl (h l o ho)
theorem Goes.append(H X:List AObj):Goes H (H++X):=fun l o h=>by
 rw[List.getElem?_append_left (List.getElem?_eq_some_iff.1 h).1]
 exact h
variable {T:Nat→Option TI}{H H':List AObj}
theorem toPV_goes(hm:Goesv H H'){a:AV}{p:PV}(h:toPV H a=some p):toPV H' a=some p:=by
 cases a with
 | vec l n=>
   simp only[toPV]at h ⊢
   cases hl:H[l]? with
   | none=>simp[hl]at h
   | some o=>
     rw[hl]at h
     rcases hm l o hl with e|⟨cs,rfl⟩
     ·rw[e]
      exact h
     simp at h
 | _=>exact h
theorem qload_goes(hm:Goesv H H'){t:TypeId}{x r:AV}(hx:∀l o,x=.ref l o→H'[l]?=H[l]?)(h:qload T H t x=some r):qload T H' t x=some r:=by
 unfold qload at h ⊢
 cases hT:T t with
 | none=>simp[hT]at h
 | some ti=>
   rw[hT]at h
   cases x with
   | ref l o=>
     simp only at h ⊢
     rw[hx l o rfl]
     exact h
   | vptr l n i o=>
     simp only at h ⊢
     cases hl:H[l]? with
     | none=>simp[hl]at h
     | some o'=>
       rw[hl]at h
       rcases hm l o' hl with e|⟨cs,rfl⟩
       ·rw[e]
        exact h
       simp at h
   | _=>exact h
theorem qindexAddr_goes(hm:Goesv H H'){t:TypeId}{x i r:AV}(h:qindexAddr T H t x i=some r):qindexAddr T H' t x i=some r:=by
 unfold qindexAddr at h ⊢
 split at h
 ·split at h
  ·rename_i hT _ _ te iv _ hTe
   split at h
   ·rename_i h0
    rw[if_pos h0]
    cases x with
    | vec l n=>
      cases hl:rowAt H l with
      | none=>simp[hl]at h
      | some p=>
        obtain⟨o',ho,hlo⟩:=rowAt_some hl
        rcases hm l o' ho with e|⟨cs,rfl⟩
        ·have hp:rowAt H' l=some p:=by
          unfold rowAt
          rw[e]
          exact hlo
         simp only[hp]
         simp only[hl]at h
         exact h
        cases hlo
    | pv p=>cases p<;>exact h
    | _=>exact h
   cases h
  cases h
 cases h
theorem qconv2_goes(hm:Goesv H H'){s d:TypeId}{x r:AV}(h:qconv2 T H s d x=some r):qconv2 T H' s d x=some r:=by
 cases x with
 | vec l n=>
   simp only[qconv2]at h ⊢
   unfold qbytes at h ⊢
   cases hl:H[l]? with
   | none=>rw[hl]at h;split at h<;>first|cases h|(rename_i h3;cases h3)
   | some o=>
     rw[hl]at h
     rcases hm l o hl with e|⟨cs,rfl⟩
     ·rw[e]
      exact h
     split at h<;>first|cases h|(rename_i h3;cases h3)
 | _=>exact h
theorem qslice_goes(hm:Goesv H H'){t:TypeId}{x r:AV}{lo hi:Option AV}(h:qslice T H t x lo hi=some r):qslice T H' t x lo hi=some r:=by
 unfold qslice at h ⊢
 split at h
 ·exact h
 ·split at h
  ·rename_i hTe hx
   simp only[hTe,toPV_goes hm hx]
   exact h
  cases h
 cases h
theorem qfill_goes(hm:Goesv H H'){fs:List (Nat×Nat)}:∀ {parts:List (Nat×AV)} {cs r:List PV},qfill H fs cs parts=some r→qfill H' fs cs parts=some r
 | [],cs,r,h=>h
 | (i,v)::rest,cs,r,h=>by
   simp only[qfill]at h ⊢
   cases hf:fs[i]? with
   | none=>simp[hf]at h
   | some p=>
     cases hv:toPV H v with
     | none=>simp[hf,hv]at h
     | some q=>
       rw[hf,hv]at h
       rw[toPV_goes hm hv]
       simp only at h ⊢
       split at h
       ·rename_i hc
        rw[if_pos hc]
        exact qfill_goes hm h
       cases h
theorem qbuild_goes(hm:Goesv H H'){t:TypeId}{parts:List (Nat×AV)}{r:AV}(h:qbuild T H t parts=some r):qbuild T H' t parts=some r:=by
 unfold qbuild at h ⊢
 split at h
 ·obtain⟨cs,hcs,rfl⟩:=Option.map_eq_some_iff.1 h
  rw[qfill_goes hm hcs]
  rfl
 cases h
theorem qlookup_goes(hm:Goesv H H'){t:TypeId}{m k r:AV}{ok:Bool}(h:qlookup T H t m k ok=some r):qlookup T H' t m k ok=some r:=by
 unfold qlookup at h ⊢
 split at h
 ·split at h
  ·rename_i hl hTe
   simp only[((hm _ _ hl).resolve_right (by rintro⟨cs,hc⟩;cases hc)),hTe]
   exact h
  cases h
 cases h
theorem qlen_goes(hm:Goesv H H'){t:TypeId}{x r:AV}(h:qlen T H t x=some r):qlen T H' t x=some r:=by
 unfold qlen at h ⊢
 split at h
 ·exact h
 ·exact h
 ·split at h
  ·split at h
   ·rename_i hl
    simp only[((hm _ _ hl).resolve_right (by rintro⟨cs,hc⟩;cases hc))]
    exact h
   cases h
  cases h
 cases h
theorem argsPV_goes(hm:Goesv H H'):∀ {az:List AV} {ps:List PV},argsPV H az=some ps→argsPV H' az=some ps
 | [],ps,h=>h
 | a::az,ps,h=>by
   simp only[argsPV]at h ⊢
   split at h
   ·rename_i p s hp hs
    rw[toPV_goes hm hp,argsPV_goes hm hs]
    exact h
   cases h
theorem toPVw_goes(hm:Goesv H H'){a:AV}{p:PV}(h:toPVw H a=some p):toPVw H' a=some p:=by
 cases a with
 | agg vs=>
   simp only[toPVw]at h ⊢
   obtain⟨ps,hps,rfl⟩:=Option.map_eq_some_iff.1 h
   rw[argsPV_goes hm hps]
   rfl
 | vec l n=>exact toPV_goes (a:=.vec l n) hm h
 | pv _=>exact h
 | nils=>exact h
 | full _=>exact h
 | _=>simp[toPVw]at h
theorem eparts_goes(hm:Goesv H H'){sz:Nat}:∀ {parts:List (Nat×AV)} {i:Nat} {r:List PV},eparts H sz i parts=some r→eparts H' sz i parts=some r
 | [],i,r,h=>h
 | (j,v)::rest,i,r,h=>by
   simp only[eparts]at h ⊢
   split at h
   ·rename_i hij
    rw[if_pos hij]
    split at h
    ·rename_i p hp
     rw[toPVw_goes hm hp]
     simp only
     split at h
     ·rename_i hc
      rw[if_pos hc]
      obtain⟨xs,hxs,rfl⟩:=Option.map_eq_some_iff.1 h
      rw[eparts_goes hm hxs]
      rfl
     cases h
    cases h
   cases h
theorem kind1_goes{o:Oper}(h:okind O.pf o=1){t:Nat→AV}{n:Nat}{H1:List AObj}{r:AV}(hm:Goesv H H')(hx:∀ty x l k,o.op=.load ty x→ev t x=.ref l k→H'[l]?=H[l]?)(hr:aop E O ⟨t,n,H⟩ o=some (r,H1)):aop E O ⟨t,n,H'⟩ o=some (r,H'):=by
 obtain⟨dst,op,type,pos,after,guard⟩:=o
 have hx0:=hx
 clear hx
 have key:∀ (q q':Option AV),(∀x,q=some x→q'=some x)→(q.map fun r=>(r,H))=some (r,H1)→(q'.map fun r=>(r,H'))=some (r,H'):=by
  intro q q' hq hm
  obtain⟨x,hx,he⟩:=Option.map_eq_some_iff.1 hm
  injection he with e1 e2
  subst e1
  rw[hq x hx]
  rfl
 cases op with
 | call c=>
   obtain⟨callee,args,ats⟩:=c
   cases callee with
   | value f=>
     cases f with
     | func f=>
       simp only[okind]at h
       split at h
       ·rename_i hp
        simp only[aop,hp,if_true]at hr ⊢
        refine key _ _ (fun x hx=>?_) hr
        unfold qcall at hx ⊢
        split at hx
        ·rename_i ps hps
         simp only[argsPV_goes hm hps]
         exact hx
        cases hx
       cases h
     | _=>cases h
   | invoke r m=>cases h
   | builtin b=>
     cases b with
     | len=>
       refine key (match args.toList,ats.toList with
        | [x],[ty]=>qlen E.T H ty (nrm (ev t x))
        | _,_=>none) (match args.toList,ats.toList with
        | [x],[ty]=>qlen E.T H' ty (nrm (ev t x))
        | _,_=>none) (fun x hx=>?_) hr
       split at hx
       ·exact qlen_goes hm hx
       cases hx
     | _=>cases h
 | makeMap ty r=>cases r<;>cases h
 | convert a b c=>exact key (qval E.T t H (.convert a b c)) _ (fun x hx=>qconv2_goes hm hx) hr
 | load a b=>exact key (qval E.T t H (.load a b)) _ (fun x hx=>qload_goes hm (fun l k=>hx0 a b l k rfl) hx) hr
 | indexAddr a b c=>exact key (qval E.T t H (.indexAddr a b c)) _ (fun x hx=>qindexAddr_goes hm hx) hr
 | index a b c=>exact key (qval E.T t H (.index a b c)) _ (fun x hx=>hx) hr
 | slice a b c d e=>
   cases e with
   | none=>exact key (qval E.T t H (.slice a b c d none)) _ (fun x hx=>qslice_goes hm hx) hr
   | some e=>exact key (qval E.T t H (.slice a b c d (some e))) _ (fun x hx=>hx) hr
 | build a b=>
   simp only[aop]at hr ⊢
   cases ho:E.ownT a with
   | true=>
     simp only[ho,if_true]at hr ⊢
     exact key (qbuildA2 E a (b.toList.map fun p=>(p.1,ev t p.2))) _ (fun x hx=>hx) hr
   | false=>
     simp only[ho,Bool.false_eq_true,if_false]at hr ⊢
     exact key (qval E.T t H (.build a b)) _ (fun x hx=>qbuild_goes hm hx) hr
 | buildSlice a b c=>
   have hb:(b==0)=false:=by
    cases hb:b==0 with
    | false=>rfl
    | true=>simp[okind,hb]at h
   simp only[aop,hb,Bool.false_and,Bool.false_eq_true,if_false,ebuildSlice]at hr ⊢
   split at hr
   ·split at hr
    ·rename_i hT _ te hTe
     split at hr
     ·rename_i hc
      rw[if_pos hc]
      split at hr
      ·rename_i xs hxs
       simp only[eparts_goes hm hxs]
       injection hr with hr
       injection hr with h1 h2
       rw[h1]
      cases hr
     cases hr
    cases hr
   cases hr
 | lookup a b c d=>exact key (qval E.T t H (.lookup a b c d)) _ (fun x hx=>qlookup_goes hm hx) hr
 | _=>cases h
theorem kind2{o:Oper}(h:okind O.pf o=2){t:Nat→AV}{n:Nat}{H1:List AObj}{r:AV}(hr:aop E O ⟨t,n,H⟩ o=some (r,H1)):Goes H H1:=by
 obtain⟨dst,op,type,pos,after,guard⟩:=o
 cases op with
 | call c=>
   obtain⟨callee,args,ats⟩:=c
   cases callee with
   | value f=>
     cases f with
     | func f=>
       simp only[okind]at h
       split at h<;>cases h
     | _=>cases h
   | invoke r m=>cases h
   | builtin b=>cases b<;>cases h
 | makeMap ty r=>
   cases r with
   | none=>
     simp only[aop,emakeMap,Option.some.injEq,Prod.mk.injEq]at hr
     rw[←hr.2]
     exact .append _ _
   | some _=>cases h
 | buildSlice a b c=>
   simp only[aop]at hr
   split at hr
   ·unfold ebuildOwn at hr
    repeat' split at hr
    all_goals first
     | (cases hr;done)
     | (simp only[Option.some.injEq,Prod.mk.injEq]at hr;rw[←hr.2];exact .append _ _)
   unfold ebuildSlice at hr
   repeat' split at hr
   all_goals first
    | (cases hr;done)
    | (simp only[Option.some.injEq,Prod.mk.injEq]at hr;rw[←hr.2];exact fun l o h=>h)
 | alloc ty=>
   simp only[aop,ealloc]at hr
   split at hr
   ·simp only[Option.some.injEq,Prod.mk.injEq]at hr
    rw[←hr.2]
    exact .append _ _
   split at hr
   ·simp only[Option.some.injEq,Prod.mk.injEq]at hr
    rw[←hr.2]
    exact .append _ _
   split at hr
   ·split at hr
    ·simp only[Option.some.injEq,Prod.mk.injEq]at hr
     rw[←hr.2]
     exact .append _ _
    cases hr
   cases hr
 | box e x=>
   simp only[aop,ebox]at hr
   split at hr<;>try split at hr
   all_goals first
    | cases hr;done
    | (simp only[Option.some.injEq,Prod.mk.injEq]at hr
       rw[←hr.2]
       exact .append _ _)
 | makeSlice a b c=>
   simp only[aop,emakeSlice]at hr
   split at hr
   ·split at hr
    ·split at hr
     ·split at hr
      ·simp only[Option.some.injEq,Prod.mk.injEq]at hr
       rw[←hr.2]
       exact .append _ _
      cases hr
     cases hr
    cases hr
   cases hr
 | _=>cases h
def putT(t:Nat→AV)(r:AV):Option Nat→Nat→AV
 | none=>t
 | some d=>upd t d r
theorem put_some{σ σ':St}{dst:Option Nat}{r:AV}{h:List AObj}(hp:put σ dst r h=some σ'):σ'=⟨putT σ.t r dst,σ.n,h⟩∧∀d,dst=some d→d<σ.n:=by
 unfold put at hp
 cases dst with
 | none=>
   simp only[Option.some.injEq]at hp
   subst hp
   exact⟨rfl,fun d hd=>by cases hd⟩
 | some d=>
   simp only at hp
   split at hp
   ·simp only[Option.some.injEq]at hp
    subst hp
    exact⟨rfl,fun e he=>by injection he with he;subst he;assumption⟩
   cases hp
def gdec(ops:Array Oper)(t:Nat→AV)(o:Oper):Option Bool:=
 match o.guard with
 | none=>some true
 | some (j,want)=>match (ops[j]?).bind (·.dst)with
   | some g=>match t g with
     | .pv (.bool b)=>some (b==want)
     | .tup []=>some false
     | _=>none
   | none=>none
def adoes(E:Env)(O:Orc)(ops:Array Oper)(σ:St)(o:Oper):Option (AV×List AObj):=
 match gdec ops σ.t o with
 | some true=>aop E O σ o
 | some false=>some (.tup [],σ.h)
 | none=>none
theorem astep_does{ops:Array Oper}{σ:St}{o:Oper}:astep E O ops σ o=(adoes E O ops σ o).bind fun r=>put σ o.dst r.1 r.2:=by
 unfold astep adoes gdec
 cases o.guard with
 | none=>rfl
 | some p=>
   obtain⟨j,want⟩:=p
   simp only
   cases(ops[j]?).bind (·.dst)with
   | none=>rfl
   | some g=>
     simp only
     generalize σ.t g=v
     cases v with
     | pv p=>
       cases p with
       | bool b=>
         simp only
         cases hb:b==want with
         | true=>
           rw[if_pos (by simpa using hb)]
         | false=>
           rw[if_neg (by simpa using hb)]
           rfl
       | _=>rfl
     | tup l=>cases l<;>rfl
     | _=>rfl
theorem gdec_congr{ops:Array Oper}{o:Oper}{t:Nat→AV}{d:Nat}{v:AV}(h:d∉o.looksAt ops):gdec ops (upd t d v) o=gdec ops t o:=by
 unfold gdec
 cases hg:o.guard with
 | none=>rfl
 | some p=>
   obtain⟨j,want⟩:=p
   simp only
   cases hd:(ops[j]?).bind (·.dst)with
   | none=>rfl
   | some g=>
     have hne:g≠d:=fun e=>h (by subst e;simp[Oper.looksAt,hg,hd])
     simp only[upd,if_neg hne]
theorem adoes_congr{ops:Array Oper}{o:Oper}{t:Nat→AV}{n d:Nat}{v:AV}{X:List AObj}(h:d∉o.looksAt ops):adoes E O ops ⟨upd t d v,n,X⟩ o=adoes E O ops ⟨t,n,X⟩ o:=by
 have h1:aop E O ⟨upd t d v,n,X⟩ o=aop E O ⟨t,n,X⟩ o:=aop_congr o (fun x hx=>ev_upd (fun e=>h (by
  subst e
  exact List.mem_append_left _ (List.mem_filterMap.2 ⟨.tmp d,by simpa using hx,rfl⟩))))
 unfold adoes
 simp only[gdec_congr h,h1]
def swapK(pf:FuncId→Bool)(x y:Oper):Bool:=
 okind pf x==0||okind pf y==0||(okind pf x==1&&okind pf y==1)||(okind pf x==1&&okind pf y==2)
theorem adoes0{ops:Array Oper}{o:Oper}(h:okind O.pf o=0){t:Nat→AV}{n:Nat}{H1:List AObj}{r:AV}(hr:adoes E O ops ⟨t,n,H⟩ o=some (r,H1)):H1=H∧∀H2,adoes E O ops ⟨t,n,H2⟩ o=some (r,H2):=by
 unfold adoes at hr ⊢
 simp only at hr ⊢
 cases hg:gdec ops t o with
 | none=>simp[hg]at hr
 | some b=>
   rw[hg]at hr
   cases b with
   | true=>exact kind0 h hr
   | false=>
     simp only[Option.some.injEq,Prod.mk.injEq]at hr ⊢
     exact⟨hr.2.symm,fun H2=>⟨hr.1,trivial⟩⟩
theorem adoes1{ops:Array Oper}{o:Oper}(h:okind O.pf o=1){t:Nat→AV}{n:Nat}{H1:List AObj}{r:AV}(hr:adoes E O ops ⟨t,n,H⟩ o=some (r,H1)):H1=H∧∀H2,Goesv H H2→(∀ty x l k,o.op=.load ty x→ev t x=.ref l k→gdec ops t o=some true→H2[l]?=H[l]?)→adoes E O ops ⟨t,n,H2⟩ o=some (r,H2):=by
 unfold adoes at hr ⊢
 simp only at hr ⊢
 cases hg:gdec ops t o with
 | none=>simp[hg]at hr
 | some b=>
   rw[hg]at hr
   cases b with
   | true=>exact⟨kind1 h hr,fun H2 h2 hx=>kind1_goes h h2 (fun ty x l k e1 e2=>hx ty x l k e1 e2 rfl) hr⟩
   | false=>
     simp only[Option.some.injEq,Prod.mk.injEq]at hr ⊢
     exact⟨hr.2.symm,fun H2 _ _=>⟨hr.1,trivial⟩⟩
theorem adoes2{ops:Array Oper}{o:Oper}(h:okind O.pf o=2){t:Nat→AV}{n:Nat}{H1:List AObj}{r:AV}(hr:adoes E O ops ⟨t,n,H⟩ o=some (r,H1)):Goes H H1:=by
 unfold adoes at hr
 simp only at hr
 cases hg:gdec ops t o with
 | none=>simp[hg]at hr
 | some b=>
   rw[hg]at hr
   cases b with
   | true=>exact kind2 h hr
   | false=>
     simp only[Option.some.injEq,Prod.mk.injEq]at hr
     rw[←hr.2]
     exact fun l o h=>h
theorem load_some{ops:Array Oper}{o:Oper}{t:Nat→AV}{n:Nat}{H1:List AObj}{r:AV}{ty:TypeId}{x:Operand}{l k:Nat}(hr:adoes E O ops ⟨t,n,H⟩ o=some (r,H1))(e1:o.op=.load ty x)(e2:ev t x=.ref l k)(hg:gdec ops t o=some true):∃c,H[l]?=some c:=by
 unfold adoes at hr
 simp only[hg]at hr
 obtain⟨dst,op,type,pos,after,guard⟩:=o
 simp only at e1
 subst e1
 simp only[aop,qval,e2]at hr
 obtain⟨v,hv,_⟩:=Option.map_eq_some_iff.1 hr
 unfold qload at hv
 split at hv
 ·cases hv
 simp only at hv
 split at hv
 ·rename_i hl
  exact⟨_,hl⟩
 cases hv
abbrev Bases:=List (Nat×Option Nat)
def baseB:AV→Option Nat→Bool
 | .any,_=>true
 | .tup [],_=>true
 | .ref l _,some m=>decide (l=m)
 | .ref _ _,none=>false
 | _,none=>true
 | _,some _=>false
def Inv(B:Bases)(t:Nat→AV):Prop:=∀p∈B,baseB (t p.1) p.2=true
def keepsB(B:Bases)(o:Oper):Bool:=
 match o.dst with
 | none=>true
 | some d=>B.all fun p=>p.1 != d||(match o.op with
   | .fieldAddr _ (.tmp j) _=>B.contains (j,p.2)
   | .indexAddr _ _ _=>p.2==none
   | _=>false)
def swapB(pf:FuncId→Bool)(B:Bases)(x y:Oper):Bool:=
 okind pf x==1&&(match y.op with
  | .store _ (.tmp q) _=>B.any fun b=>b.1==q&&(match b.2 with
    | some l=>(match x.op with
      | .load _ (.tmp p)=>B.any fun c=>c.1==p&&c.2 != some l
      | .load _ _=>false
      | _=>true)
    | none=>false)
  | _=>false)
theorem inv_step{B:Bases}{ops:Array Oper}{o:Oper}(hk:keepsB B o=true){σ σ':St}(h:astep E O ops σ o=some σ')(hB:Inv B σ.t):Inv B σ'.t:=by
 obtain⟨t,n,H⟩:=σ
 rw[astep_does]at h
 obtain⟨⟨r,H1⟩,hr,hp⟩:=Option.bind_eq_some_iff.1 h
 obtain⟨e,hd⟩:=put_some hp
 subst e
 intro p hpB
 have h0:=hB p hpB
 simp only at h0 ⊢
 cases hdst:o.dst with
 | none=>exact h0
 | some d=>
   show baseB (if p.1=d then r else t p.1) p.2=true
   split
   rotate_left
   ·exact h0
   rename_i hpd
   unfold keepsB at hk
   rw[hdst]at hk
   have h1:=List.all_eq_true.1 hk p hpB
   simp only[hpd,bne_self_eq_false,Bool.false_or]at h1
   unfold adoes at hr
   simp only at hr
   cases hg:gdec ops t o with
   | none=>simp[hg]at hr
   | some b=>
     rw[hg]at hr
     cases b with
     | false=>
       simp only[Option.some.injEq,Prod.mk.injEq]at hr
       rw[←hr.1]
       cases p.2<;>rfl
     | true=>
       simp only at hr
       obtain⟨dst,op,type,pos,after,guard⟩:=o
       simp only at h1 hr
       split at h1
       ·rename_i ty j f
        have hj:=hB (j,p.2) (by simpa using h1)
        simp only[aop,qval]at hr
        obtain⟨v,hv,he⟩:=Option.map_eq_some_iff.1 hr
        injection he with e1 e2
        subst e1
        have hev:ev t (.tmp j)=t j:=rfl
        rw[hev]at hv
        simp only at hj
        unfold qfieldAddr at hv
        split at hv
        ·split at hv
         ·split at hv
          ·cases hv
          generalize t j=u at hj hv
          cases u<;>simp only[Option.some.injEq,reduceCtorEq]at hv
          ·subst hv;cases hc:p.2<;>simp_all [baseB]
          ·subst hv;cases hc:p.2<;>simp_all [baseB]
          subst hv;cases hc:p.2<;>simp_all [baseB]
         cases hv
        cases hv
       ·have h1:p.2=none:=by simpa using h1
        simp only[aop,qval]at hr
        obtain⟨v,hv,he⟩:=Option.map_eq_some_iff.1 hr
        injection he with e1 e2
        subst e1
        rw[h1]
        unfold qindexAddr at hv
        repeat'(split at hv)
        all_goals first
         | (cases hv;done)
         | (simp only[Option.some.injEq]at hv;subst hv;rfl)
       cases h1
theorem store_does{ops:Array Oper}{o:Oper}{t:Nat→AV}{n:Nat}{H2:List AObj}{r:AV}{ty:TypeId}{q l:Nat}{x:Operand}(hr:adoes E O ops ⟨t,n,H⟩ o=some (r,H2))(ho:o.op=.store ty (.tmp q) x)(hq:baseB (t q) (some l)=true):Goesv H H2∧∀l',l'≠l→H2[l']?=H[l']?:=by
 unfold adoes at hr
 simp only at hr
 cases hg:gdec ops t o with
 | none=>simp[hg]at hr
 | some b=>
   rw[hg]at hr
   cases b with
   | false=>
     simp only[Option.some.injEq,Prod.mk.injEq]at hr
     rw[←hr.2]
     exact⟨fun l o h=>.inl h,fun _ _=>rfl⟩
   | true=>
     simp only at hr
     obtain⟨dst,op,type,pos,after,guard⟩:=o
     simp only at ho
     subst ho
     simp only[aop]at hr
     obtain⟨h,hv,he⟩:=Option.map_eq_some_iff.1 hr
     injection he with e1 e2
     subst e2
     have hev:ev t (.tmp q)=t q:=rfl
     rw[hev]at hv
     have set:∀ (cs c:List AV),H[l]?=some (.var c)→Goesv H (H.set l (.var cs))∧∀l',l'≠l→(H.set l (.var cs))[l']?=H[l']?:=by
      intro cs c hl
      refine⟨fun i o hi=>?_,fun l' hl'=>List.getElem?_set_ne (Ne.symm hl')⟩
      by_cases e:i=l
      ·subst e
       rw[hl]at hi
       injection hi with hi
       exact .inr ⟨c,hi.symm⟩
      rw[List.getElem?_set_ne (Ne.symm e)]
      exact .inl hi
     unfold estore at hv
     split at hv
     ·cases hv
     split at hv
     ·rename_i htq
      rw[htq]at hq
      have hl:_=l:=of_decide_eq_true hq
      subst hl
      split at hv
      ·rename_i cs hcs
       split at hv
       ·split at hv
        ·split at hv
         ·injection hv with hv
          subst hv
          exact set _ _ hcs
         cases hv
        ·split at hv
         ·injection hv with hv
          subst hv
          exact set _ _ hcs
         cases hv
        cases hv
       ·cases hv
       split at hv
       ·injection hv with hv
        subst hv
        exact set _ _ hcs
       cases hv
      cases hv
     ·rename_i htq
      rw[htq]at hq
      simp[baseB]at hq
     cases hv
theorem swap{B:Bases}{ops:Array Oper}{x y:Oper}(hap:x.apart ops y=true)(hk:(swapK O.pf x y||swapB O.pf B x y)=true){σ σ1 σ2:St}(hB:Inv B σ.t)(h1:astep E O ops σ x=some σ1)(h2:astep E O ops σ1 y=some σ2):
 ∃σ3,astep E O ops σ y=some σ3∧astep E O ops σ3 x=some σ2:=by
 obtain⟨t,n,H⟩:=σ
 obtain⟨ha,hb,hc⟩:=Oper.apart_spec hap
 rw[astep_does]at h1 h2
 obtain⟨⟨r1,H1⟩,hr1,hp1⟩:=Option.bind_eq_some_iff.1 h1
 obtain⟨⟨r2,H2⟩,hr2,hp2⟩:=Option.bind_eq_some_iff.1 h2
 obtain⟨e1,hd1⟩:=put_some hp1
 subst e1
 obtain⟨e2,hd2⟩:=put_some hp2
 subst e2
 simp only at hr2 hd1 hd2
 have hy:adoes E O ops ⟨t,n,H1⟩ y=some (r2,H2):=by
  rw[←hr2]
  cases hx:x.dst with
  | none=>rfl
  | some d=>exact(adoes_congr (ha d hx)).symm
 have hxc:∀X,adoes E O ops ⟨putT t r2 y.dst,n,X⟩ x=adoes E O ops ⟨t,n,X⟩ x:=by
  intro X
  cases hyd:y.dst with
  | none=>rfl
  | some d=>exact adoes_congr (hc d hyd)
 have key:∃H3,adoes E O ops ⟨t,n,H⟩ y=some (r2,H3)∧adoes E O ops ⟨t,n,H3⟩ x=some (r1,H2):=by
  rcases Bool.or_eq_true _ _▸hk with hk|hk
  rotate_left
  ·unfold swapB at hk
   rw[Bool.and_eq_true]at hk
   obtain⟨hx,hk⟩:=hk
   have hx:okind O.pf x=1:=by simpa using hx
   split at hk
   ·rename_i ty q v hyop
    obtain⟨b,hb,hk⟩:=List.any_eq_true.1 hk
    rw[Bool.and_eq_true]at hk
    obtain⟨hbq,hk⟩:=hk
    have hbq:b.1=q:=by simpa using hbq
    split at hk
    ·rename_i l hbl
     have hq:=hB b hb
     simp only[hbq,hbl]at hq
     obtain⟨rfl,hall⟩:=adoes1 hx hr1
     obtain⟨g1,g2⟩:=store_does hy hyop hq
     refine⟨H2,hy,hall H2 g1 fun ty x' l0 k0 e1 e2 hg=>g2 l0 ?_⟩
     split at hk
     ·rename_i ty2 p hxop
      obtain⟨c,hc,hcc⟩:=List.any_eq_true.1 hk
      simp only[Bool.and_eq_true,beq_iff_eq,bne_iff_ne,ne_eq]at hcc
      rw[hxop]at e1
      injection e1 with e11 e12
      subst e12
      have hp:=hB c hc
      have e2':t p=.ref l0 k0:=e2
      simp only[hcc.1,e2']at hp
      intro e
      subst e
      cases hc2:c.2 with
      | none=>rw[hc2]at hp;cases hp
      | some m=>
        rw[hc2]at hp
        have:l0=m:=of_decide_eq_true hp
        exact hcc.2 (by rw[hc2,this])
     ·cases hk
     rename_i hno1 hno2
     exact absurd e1 (hno2 _ _)
    cases hk
   cases hk
  unfold swapK at hk
  simp only[Bool.or_eq_true,beq_iff_eq,Bool.and_eq_true]at hk
  rcases hk with((h|h)|⟨hx,hy'⟩)|⟨hx,hy'⟩
  ·obtain⟨rfl,hall⟩:=adoes0 h hr1
   exact⟨H2,hy,hall H2⟩
  ·obtain⟨rfl,hall⟩:=adoes0 h hy
   exact⟨H,hall H,hr1⟩
  ·obtain⟨rfl,_⟩:=adoes1 hx hr1
   obtain⟨rfl,_⟩:=adoes1 hy' hy
   exact⟨_,hy,hr1⟩
  obtain⟨rfl,hall⟩:=adoes1 hx hr1
  exact⟨H2,hy,hall H2 (adoes2 hy' hy).v fun ty x' l k e1 e2 hg=>by
   obtain⟨c,hc⟩:=load_some hr1 e1 e2 hg
   rw[hc]
   exact adoes2 hy' hy l c hc⟩
 obtain⟨H3,k1,k2⟩:=key
 refine⟨⟨putT t r2 y.dst,n,H3⟩,?_,?_⟩
 ·rw[astep_does,k1]
  show put ⟨t,n,H⟩ y.dst r2 H3=_
  unfold put
  cases hyd:y.dst with
  | none=>rfl
  | some d=>simp[hd2 d hyd,putT]
 rw[astep_does,hxc,k2]
 show put _ x.dst r1 H2=_
 unfold put
 cases hxd:x.dst with
 | none=>
   cases hyd:y.dst with
   | none=>rfl
   | some d=>rfl
 | some d=>
   simp only[hd1 d hxd,if_true]
   cases hyd:y.dst with
   | none=>rfl
   | some e=>
     simp only[Option.some.injEq,St.mk.injEq,and_true]
     exact(upd_comm (fun he=>hb d hxd (by rw[hyd,he]))).symm
theorem arun_front{B:Bases}{ops:Array Oper}{y:Oper}:∀ (l r:List Oper) (σ σ':St),Inv B σ.t→(∀x∈l,x.apart ops y=true∧(swapK O.pf x y||swapB O.pf B x y)=true∧keepsB B x=true)→arun E O ops (l++y::r) σ=some σ'→∃σ1,astep E O ops σ y=some σ1∧arun E O ops (l++r) σ1=some σ'
 | [],r,σ,σ',_,_,h=>by
   obtain⟨σ1,h1,h2⟩:=Option.bind_eq_some_iff.1 h
   exact⟨σ1,h1,h2⟩
 | x::l,r,σ,σ',hB,hl,h=>by
   obtain⟨σ0,h1,h2⟩:=Option.bind_eq_some_iff.1 h
   obtain⟨σ1,h3,h4⟩:=arun_front l r σ0 σ' (inv_step (hl x (by simp)).2.2 h1 hB) (fun z hz=>hl z (by simp[hz])) h2
   obtain⟨σ3,h5,h6⟩:=swap (hl x (by simp)).1 (hl x (by simp)).2.1 hB h1 h3
   refine⟨σ3,h5,?_⟩
   show(astep E O ops σ3 x).bind (arun E O ops (l++r))=_
   rw[h6]
   exact h4
def direct(ops:Array Oper)(j:Nat):List Nat:=
 match ops[j]? with
 | some o=>(o.after.toList.filter (Region.binds .any)).map (·.on)
 | none=>[]
def ancs(ops:Array Oper):Nat→List (List Nat)
 | 0=>[]
 | n+1=>let prev:=ancs ops n;prev++[dedup (direct ops n++(direct ops n).flatMap fun i=>prev.getD i [])]
theorem dedup_mem{x:Nat}:∀ {l:List Nat},x∈dedup l→x∈l
 | [],h=>h
 | y::r,h=>by
   unfold dedup at h
   split at h
   ·exact List.mem_cons_of_mem _ (dedup_mem h)
   rcases List.mem_cons.1 h with h|h
   ·exact List.mem_cons.2 (.inl h)
   exact List.mem_cons_of_mem _ (dedup_mem h)
theorem ancs_length(ops:Array Oper):∀n,(ancs ops n).length=n
 | 0=>rfl
 | n+1=>by simp[ancs,ancs_length ops n]
theorem ancs_listed{ops:Array Oper}{L:Nat→Prop}(hdown:∀j,L j→∀i∈direct ops j,L i):∀ (n j:Nat),(∀i∈direct ops j,L i)→∀i∈(ancs ops n).getD j [],L i
 | 0,j,_,i,hi=>by simp[ancs]at hi
 | n+1,j,hd,i,hi=>by
   simp only[ancs,List.getD_eq_getElem?_getD]at hi
   rcases Nat.lt_trichotomy j n with h|h|h
   ·rw[List.getElem?_append_left (by rw[ancs_length];exact h)]at hi
    exact ancs_listed hdown n j hd i (by rw[List.getD_eq_getElem?_getD];exact hi)
   ·subst h
    rw[List.getElem?_append_right (by rw[ancs_length];exact Nat.le_refl _),ancs_length,Nat.sub_self]at hi
    simp only[List.getElem?_cons_zero,Option.getD_some]at hi
    rcases List.mem_append.1 (dedup_mem hi)with h|h
    ·exact hd i h
    obtain⟨k,hk,hik⟩:=List.mem_flatMap.1 h
    exact ancs_listed hdown j k (hdown k (hd k hk)) i (by rw[List.getD_eq_getElem?_getD];exact hik)
   rw[List.getElem?_eq_none (by simp[ancs_length];omega)]at hi
   simp at hi
def orderOKB(pf:FuncId→Bool)(B:Bases)(ops:Array Oper):Bool:=
 let A:=ancs ops ops.size
 (List.range ops.size).all fun j=>(direct ops j).all (fun i=>decide (i<j))&&((List.range j).all fun i=>(A.getD j []).contains i||(match ops[i]?,ops[j]? with
   | some x,some y=>x.apart ops y&&(swapK pf x y||swapB pf B x y)
   | _,_=>true))&&(match ops[j]? with
   | some o=>keepsB B o
   | none=>true)
def orderOK(pf:FuncId→Bool)(ops:Array Oper):Bool:=orderOKB pf [] ops
theorem orderOK_spec{pf:FuncId→Bool}{B:Bases}{ops:Array Oper}(h:orderOKB pf B ops=true){i j:Nat}{x y:Oper}(hij:i<j)(hx:ops[i]?=some x)(hy:ops[j]?=some y)(hn:i∉(ancs ops ops.size).getD j []):x.apart ops y=true∧(swapK pf x y||swapB pf B x y)=true:=by
 have hj:j<ops.size:=(Array.getElem?_eq_some_iff.1 hy).1
 have h0:=List.all_eq_true.1 h j (List.mem_range.2 hj)
 rw[Bool.and_eq_true,Bool.and_eq_true]at h0
 have h1:=List.all_eq_true.1 h0.1.2 i (List.mem_range.2 hij)
 rcases Bool.or_eq_true _ _▸h1 with h1|h1
 ·exact absurd (by simpa using h1) hn
 simp only[hx,hy]at h1
 rw[Bool.and_eq_true]at h1
 exact h1
theorem orderOK_keeps{pf:FuncId→Bool}{B:Bases}{ops:Array Oper}(h:orderOKB pf B ops=true){j:Nat}{y:Oper}(hy:ops[j]?=some y):keepsB B y=true:=by
 have hj:j<ops.size:=(Array.getElem?_eq_some_iff.1 hy).1
 have h0:=List.all_eq_true.1 h j (List.mem_range.2 hj)
 rw[Bool.and_eq_true]at h0
 have h1:=h0.2
 simp only[hy]at h1
 exact h1
theorem orderOK_lt{pf:FuncId→Bool}{B:Bases}{ops:Array Oper}(h:orderOKB pf B ops=true){i j:Nat}(hj:j<ops.size)(hi:i∈direct ops j):i<j:=by
 have h0:=List.all_eq_true.1 h j (List.mem_range.2 hj)
 rw[Bool.and_eq_true,Bool.and_eq_true]at h0
 simpa using List.all_eq_true.1 h0.1.1 i hi
def todo(ops:Array Oper)(listed:Array Bool):List Nat:=(List.range ops.size).filter fun i=>!listed.getD i true
theorem todo_front{ops:Array Oper}{listed:Array Bool}{j:Nat}(hj:j∈todo ops listed):∃l r,todo ops listed=l++j::r∧todo ops (listed.setIfInBounds j true)=l++r∧∀i∈l,i<j∧listed.getD i true=false:=by
 have gen:∀ (L:List Nat),L.Nodup→j∈L.filter (fun i=>!listed.getD i true)→(∀ (a b:List Nat),L=a++j::b→∀i∈a,i<j)→
  ∃l r,L.filter (fun i=>!listed.getD i true)=l++j::r∧L.filter (fun i=>!(listed.setIfInBounds j true).getD i true)=l++r∧∀i∈l,i<j∧listed.getD i true=false:=by
  intro L hnd hm hlt
  have hm':=(List.mem_filter.1 hm).1
  obtain⟨a,b,rfl⟩:=List.append_of_mem hm'
  have hp:=(List.mem_filter.1 hm).2
  have hjl:listed.getD j true=false:=by simpa using hp
  have hjs:j<listed.size:=by
   rcases Nat.lt_or_ge j listed.size with h|h
   ·exact h
   simp[Array.getElem?_eq_none h]at hjl
  have hna:j∉a:=fun h=>(List.nodup_append.1 hnd).2.2 j h j (by simp) rfl
  have hnb:j∉b:=(List.nodup_cons.1 (List.nodup_append.1 hnd).2.1).1
  have hsame:∀ (x:List Nat),j∉x→x.filter (fun i=>!(listed.setIfInBounds j true).getD i true)=x.filter (fun i=>!listed.getD i true):=by
   intro x hx
   refine List.filter_congr fun i hi=>?_
   rw[getD_set_ne true (fun e:j=i=>hx (by rw[e];exact hi))]
  refine⟨a.filter (fun i=>!listed.getD i true),b.filter (fun i=>!listed.getD i true),?_,?_,fun i hi=>?_⟩
  ·rw[List.filter_append,List.filter_cons,if_pos hp]
  ·rw[List.filter_append,List.filter_cons,if_neg (by simp[hjs]),hsame a hna,hsame b hnb]
  have hi':=List.mem_filter.1 hi
  exact⟨hlt a b rfl i hi'.1,by simpa using hi'.2⟩
 refine gen (List.range ops.size) List.nodup_range hj (fun a b h i hi=>?_)
 have hp:=List.pairwise_lt_range (n:=ops.size)
 rw[h]at hp
 exact(List.pairwise_append.1 hp).2.2 i hi j (by simp)
variable {γ₀:List Gh}{H₀:List AObj}{Φ₀:Nat→Nat→Prop}{w₀:World}
def opsAt(ops:Array Oper)(l:List Nat):List Oper:=l.filterMap fun i=>ops[i]?
theorem opsAt_append(ops:Array Oper)(a b:List Nat):opsAt ops (a++b)=opsAt ops a++opsAt ops b:=List.filterMap_append
theorem drawn_sound(hS:Sound E O){B:Bases}{ops:Array Oper}(hok:orderOKB O.pf B ops=true){Q:Exit→Act→World→Prop}{σ':St}(hQ:∀a' w',Rel E γ₀ H₀ Φ₀ w₀ σ' a' w'→Q .normal a' w'):
 ∀ (fuel:Nat) (listed:Array Bool) (σ:St) (a:Act) (w:World),listed.size=ops.size→(todo ops listed).length≤fuel→(∀j,listed.getD j false=true→∀i∈direct ops j,listed.getD i false=true)→Inv B σ.t→
  arun E O ops (opsAt ops (todo ops listed)) σ=some σ'→Rel E γ₀ H₀ Φ₀ w₀ σ a w→wpAny E.P .any ops Q fuel listed a w:=by
 have none_left:∀ (listed:Array Bool),listed.size=ops.size→todo ops listed=[]→Region.ready .any ops listed=[]:=by
  intro listed hsz h
  refine List.eq_nil_iff_forall_not_mem.2 fun j hj=>?_
  obtain⟨h1,o,ho,_⟩:=mem_ready.1 hj
  have:j∈todo ops listed:=List.mem_filter.2 ⟨List.mem_range.2 (Array.getElem?_eq_some_iff.1 ho).1,by simp[h1]⟩
  rw[h]at this
  cases this
 have ready_left:∀ (listed:Array Bool),listed.size=ops.size→todo ops listed≠[]→Region.ready .any ops listed≠[]:=by
  intro listed hsz hne hnone
  obtain⟨j,rest,hjr⟩:=List.exists_cons_of_ne_nil hne
  have hj:j∈todo ops listed:=by rw[hjr];simp
  obtain⟨hjs,hun⟩:=List.mem_filter.1 hj
  have hjs':=List.mem_range.1 hjs
  have hsort:(todo ops listed).Pairwise (·<·):=(List.pairwise_lt_range (n:=ops.size)).filter _
  rw[hjr]at hsort
  have hready:j∈Region.ready .any ops listed:=by
   refine mem_ready.2 ⟨by simpa using hun,ops[j],Array.getElem?_eq_getElem hjs',fun e he hb=>?_⟩
   have hd:e.on∈direct ops j:=by
    simp only[direct,Array.getElem?_eq_getElem hjs']
    exact List.mem_map.2 ⟨e,List.mem_filter.2 ⟨by simpa using he,hb⟩,rfl⟩
   have hlt:=orderOK_lt hok hjs' hd
   have his:e.on<listed.size:=by omega
   cases hb2:listed.getD e.on true with
   | true=>
     simp[his]at hb2 ⊢
     exact hb2
   | false=>
     exfalso
     have hm:e.on∈todo ops listed:=List.mem_filter.2 ⟨List.mem_range.2 (by omega),by simpa using hb2⟩
     rw[hjr]at hm
     rcases List.mem_cons.1 hm with h|h
     ·omega
     have:=(List.pairwise_cons.1 hsort).1 e.on h
     omega
  rw[hnone]at hready
  cases hready
 intro fuel
 induction fuel with
 | zero=>
   intro listed σ a w hsz hl hdown hBσ hrun hR
   have h0:todo ops listed=[]:=List.eq_nil_of_length_eq_zero (by omega)
   rw[h0]at hrun
   simp only[opsAt,List.filterMap_nil,arun,Option.some.injEq]at hrun
   subst hrun
   exact⟨none_left listed hsz h0,hQ a w hR⟩
 | succ fuel ih=>
   intro listed σ a w hsz hl hdown hBσ hrun hR
   refine⟨fun hnone=>?_,fun j hj=>?_⟩
   ·by_cases h0:todo ops listed=[]
    ·rw[h0]at hrun
     simp only[opsAt,List.filterMap_nil,arun,Option.some.injEq]at hrun
     subst hrun
     exact hQ a w hR
    exact absurd hnone (ready_left listed hsz h0)
   obtain⟨h1,o,ho,hbound⟩:=mem_ready.1 hj
   have hjs:j<ops.size:=(Array.getElem?_eq_some_iff.1 ho).1
   have hjt:j∈todo ops listed:=List.mem_filter.2 ⟨List.mem_range.2 hjs,by simp[h1]⟩
   obtain⟨l,r,e1,e2,hl1⟩:=todo_front hjt
   have hdir:∀i∈direct ops j,listed.getD i false=true:=by
    intro i hi
    simp only[direct,ho]at hi
    obtain⟨e,he,rfl⟩:=List.mem_map.1 hi
    have he':=List.mem_filter.1 he
    exact hbound e (by simpa using he'.1) he'.2
   have hanc:=ancs_listed (ops:=ops) (L:=fun i=>listed.getD i false=true) hdown ops.size j hdir
   have hfront:∀x∈opsAt ops l,x.apart ops o=true∧(swapK O.pf x o||swapB O.pf B x o)=true∧keepsB B x=true:=by
    intro x hx
    obtain⟨i,hi,hxi⟩:=List.mem_filterMap.1 hx
    obtain⟨hij,hun⟩:=hl1 i hi
    suffices hw:x.apart ops o=true∧(swapK O.pf x o||swapB O.pf B x o)=true from ⟨hw.1,hw.2,orderOK_keeps hok hxi⟩
    refine orderOK_spec hok hij hxi ho (fun hm=>?_)
    have:=hanc i hm
    have his:i<listed.size:=by rw[hsz];exact(Array.getElem?_eq_some_iff.1 hxi).1
    simp[his]at this hun
    rw[this]at hun
    cases hun
   rw[e1,opsAt_append]at hrun
   have hcons:opsAt ops (j::r)=o::opsAt ops r:=by simp[opsAt,ho]
   rw[hcons]at hrun
   obtain⟨σ1,hs1,hrun1⟩:=arun_front _ _ σ σ' hBσ hfront hrun
   have hstep:=astep_sound hS hs1 hR (K:=wpAny E.P .any ops Q fuel (listed.setIfInBounds j true)) (Q:=Q) (fun a' w' hR'=>by
    refine ih (listed.setIfInBounds j true) σ1 a' w' (by simpa using hsz) ?_ ?_ (inv_step (orderOK_keeps hok ho) hs1 hBσ) ?_ hR'
    ·rw[e2]
     rw[e1]at hl
     simp only[List.length_append,List.length_cons]at hl ⊢
     omega
    ·intro k hk i hi
     by_cases hkj:j=k
     ·subst hkj
      exact getD_set_true (hdir i hi)
     rw[getD_set_ne false hkj]at hk
     exact getD_set_true (hdown k hk i hi)
    rw[e2,opsAt_append]
    exact hrun1)
   unfold wpOp
   rw[ho]
   simp only
   split
   ·rename_i hw
    rw[if_pos hw]at hstep
    exact .inl hstep
   rename_i hw
   rw[if_neg hw]at hstep
   exact hstep
theorem AW.drawnB(hP:E.P.follows .mixedOrders=true)(hS:Sound E O){k id:Nat}{B:Bases}{ops:Array Oper}{σ σ':St}{Q:Exit→St→Prop}(hok:orderOKB O.pf B ops=true)(hB:Inv B σ.t)(h:arun E O ops ops.toList σ=some σ')(hQ:Q .normal σ'):AW E k (.region id ops true) Q σ:=by
 intro γ₀ H₀ Φ₀ w₀ a w hl hR
 refine wp_region_any hP ?_
 have htodo:todo ops (Array.replicate ops.size false)=List.range ops.size:=by
  refine List.filter_eq_self.2 fun i hi=>?_
  simp[List.mem_range.1 hi]
 have hall:opsAt ops (List.range ops.size)=ops.toList:=by
  refine List.ext_getElem? fun i=>?_
  have gen:∀ (l:List Nat),(∀i∈l,i<ops.size)→opsAt ops l=l.map fun i=>ops.getD i default:=by
   intro l
   induction l with
   | nil=>intro _;rfl
   | cons i l ih=>
     intro hl
     have hi:=hl i (by simp)
     have:=ih fun j hj=>hl j (by simp[hj])
     unfold opsAt at this ⊢
     simp[hi,this]
  have:=gen (List.range ops.size) fun i hi=>List.mem_range.1 hi
  rw[this]
  by_cases hi:i<ops.size
  ·simp[hi]
  simp[hi]
 refine drawn_sound hS hok (σ':=σ') (γ₀:=γ₀) (H₀:=H₀) (Φ₀:=Φ₀) (w₀:=w₀) (fun a' w' hR'=>⟨σ',hR',hQ⟩) ops.size _ σ a _ (by simp) (by rw[htodo];simp) ?_ hB (by rw[htodo,hall];exact h) ?_
 ·intro j hj
  exfalso
  by_cases hjs:j<ops.size
  ·simp[hjs]at hj
  simp[hjs]at hj
 obtain⟨⟨γ,Φ,hok',hs⟩,hsz,hd,h0⟩:=hR
 have hk:Ok E γ σ.h Φ w γ σ.h Φ { w with drawn:=w.drawn+1 }:=hok'.inv.grow (fun _ _=>rfl) (Nat.le_refl _) rfl rfl rfl (fun _ _ h=>h) (fun _ _ h _=>h) hok'.inv.phi
 exact⟨⟨γ,Φ,hok'.trans hk,fun i=>(hs i).mono hk.evo⟩,hsz,hd,h0⟩
theorem AW.drawn(hP:E.P.follows .mixedOrders=true)(hS:Sound E O){k id:Nat}{ops:Array Oper}{σ σ':St}{Q:Exit→St→Prop}(hok:orderOK O.pf ops=true)(h:arun E O ops ops.toList σ=some σ')(hQ:Q .normal σ'):AW E k (.region id ops true) Q σ:=
 AW.drawnB (B:=[]) hP hS hok (fun p hp=>by cases hp) h hQ
end
end Go.Abs
