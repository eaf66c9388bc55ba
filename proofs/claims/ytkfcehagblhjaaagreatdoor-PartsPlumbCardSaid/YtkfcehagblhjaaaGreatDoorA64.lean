import Derived.Test.YtkfcehagblhjaaaGreatDoorA50
import Derived.Test.YtkfcehagblhjaaaGreatDoorA39
import Derived.LoopN
import Derived.Test.YtkfcehagblhjaaaGreatDoorA17
import Derived.Defers
import Derived.Recover
set_option linter.unusedVariables false
set_option linter.unusedSimpArgs false
set_option linter.defProp false
namespace Go.Abs
open Go.RowKit
abbrev KO:=FuncId→List AV→List AObj→Option Out
inductive XR where
 | val (v:AV) (h:List AObj)
 | boom (v:Value) (h:List AObj)
end Go.Abs
namespace Go.Abs
open Go.RowKit
inductive XE where
 | normal
 | exit (id:Nat)
 | ret
 | panic (v:Value)
section
variable {E:Env}{L:KO}{k:Nat}
end
end Go.Abs
namespace Go.Abs
open Go.RowKit
def GoodH(E:Env)(S:Spec):Prop:=GoodS E S∧HasBody E S.f
def findS(L:List Spec)(f:FuncId):Option Spec:=L.find? fun S=>S.f==f
open Classical in
noncomputable def cL(E:Env)(L:List Spec)(f:FuncId)(args:List AV)(H:List AObj):Option Out:=
 match findS L f with
 | some S=>if GoodH E S then S.c args H else none
 | none=>none
noncomputable def oL(E:Env)(pf:FuncId→Bool)(L:List Spec):Orc:={ C:=fun f args H=>match cL E L f args H with|some (.ret rs H')=>some (rs,H')|_=>none,pf:=pf }
noncomputable def xL(E:Env)(L:List Spec):XO:=fun f args H=>match cL E L f args H with|some (.boom v)=>some v|_=>none
def AllG(E:Env):List Spec→Prop
 | []=>True
 | S::L=>GoodH E S∧AllG E L
def Kn(O:Orc)(X:XO)(f:FuncId)(S:Spec):Prop:=∀x r,S.F x=some r→Says O X f (S.A x).1 (S.A x).2 (S.R x r)
def firstAt(L:List Spec)(i f:Nat):Option Spec:=match L[i]? with
 | some S=>if S.f==f&&(L.take i).all (fun T=>!(T.f==f))then some S else none
 | none=>none
section
variable {E:Env}{L:List Spec}{pf:FuncId→Bool}
theorem cL_good{f:FuncId}{args:List AV}{H:List AObj}{o:Out}(h:cL E L f args H=some o):GoodB E f args H o∧HasBody E f:=by
 unfold cL findS at h
 split at h
 ·rename_i S hS
  have hf:S.f=f:=by simpa using List.find?_some hS
  split at h
  ·rename_i hg
   subst hf
   exact⟨hg.1.c args H o h,hg.2⟩
  cases h
 cases h
theorem oL_sound:Sound E (oL E pf L):=by
 intro f args H rs H' hc
 simp only[oL]at hc
 split at hc
 ·rename_i rs' Hs hl
  simp only[Option.some.injEq,Prod.mk.injEq]at hc
  obtain⟨rfl,rfl⟩:=hc
  exact cL_good hl
 cases hc
theorem xL_sound:SoundX E (xL E L):=by
 intro f args H v hc
 simp only[xL]at hc
 split at hc
 ·rename_i u hl
  injection hc with hc
  subst hc
  exact cL_good hl
 cases hc
theorem allG_mem:∀ {L:List Spec} {i:Nat} {S:Spec},AllG E L→L[i]?=some S→GoodH E S
 | _::_,0,_,h,hi=>by
   simp only[List.getElem?_cons_zero,Option.some.injEq]at hi
   subst hi
   exact h.1
 | _::L,i+1,_,h,hi=>allG_mem (L:=L) (i:=i) h.2 (by simpa using hi)
theorem find_first{f:Nat}{S:Spec}(hS:(S.f==f)=true):∀ {L:List Spec} {i:Nat},L[i]?=some S→(L.take i).all (fun T=>!(T.f==f))=true→findS L f=some S
 | T::L,0,hi,_=>by
   simp only[List.getElem?_cons_zero,Option.some.injEq]at hi
   subst hi
   unfold findS
   rw[List.find?_cons,hS]
 | T::L,i+1,hi,ha=>by
   simp only[List.take_succ_cons,List.all_cons,Bool.and_eq_true,Bool.not_eq_true']at ha
   unfold findS
   rw[List.find?_cons,ha.1]
   exact find_first hS (L:=L) (i:=i) (by simpa using hi) ha.2
theorem orcs(hg:AllG E L):∃ (O:Orc) (X:XO),Sound E O∧SoundX E X∧O.pf=pf∧∀ (i f:Nat) {S:Spec},firstAt L i f=some S→Kn O X f S:=by
 refine⟨oL E pf L,xL E L,oL_sound,xL_sound,rfl,fun i f S hi x r hr=>?_⟩
 unfold firstAt at hi
 split at hi
 ·rename_i S' hS'
  split at hi
  ·rename_i hc
   simp only[Option.some.injEq]at hi
   subst hi
   simp only[Bool.and_eq_true]at hc
   have hG:=allG_mem hg hS'
   have hc':cL E L f (S'.A x).1 (S'.A x).2=some (S'.R x r):=by
    unfold cL
    rw[find_first hc.1 hS' hc.2]
    simp only
    rw[if_pos hG,S'.c_at,hr]
    rfl
   generalize hR:S'.R x r=o at hc'
   cases o with
   | ret rs H'=>simp only[Says,oL,hc']
   | boom v=>simp only[Says,xL,hc']
  cases hi
 cases hi
theorem Kn.ret{O:Orc}{X:XO}{f:FuncId}{S:Spec}(k:Kn O X f S)(x:S.α){r:S.ρ}(q:S.F x=some r){args:List AV}{H:List AObj}{rs:List AV}{H':List AObj}(e1:S.A x=(args,H))(e2:S.R x r=.ret rs H'):O.C f args H=some (rs,H'):=by
 have h:=k x r q
 rw[e1,e2]at h
 exact h
theorem pft{O:Orc}(h:O.pf=pf)(f:FuncId){b:Bool}(e:pf f=b):O.pf f=b:=by rw[h];exact e
theorem GoodB.startE{f:FuncId}{fn:Func}{c:Code}(hf:E.P.funcs[f]?=some fn)(hb:fn.body=some c){args:List AV}{H:List AObj}{out:Out}(hn:args.length≤fn.ntmps)(extra:List Nat)(hd0:E.dfs=[])
 (h:AW E H.length c (retB E fn H.length extra H out) ⟨entryT args,fn.ntmps,H⟩):GoodB E f args H out:=by
 cases out with
 | ret rs H'=>exact Good.of_body hf hb hn extra hd0 h
 | boom v=>exact GoodX.of_body hf hb hn hd0 h
theorem GH{S:Spec}{fn:Func}{c:Code}(hf:E.P.funcs[S.f]?=some fn)(hnm:(fn.name=="runtime.NumGoroutine")=false)(hb:fn.body=some c)(N:Nat)(hN:fn.ntmps=N)(extra:List Nat)(hd0:E.dfs=[])
 (h:∀ (x:S.α) (r:S.ρ),S.F x=some r→∀m,(S.A x).2.length=m→(decide ((S.A x).1.length≤N)=true∧AW E m c (retB E fn m extra (S.A x).2 (S.R x r)) ⟨sl (enum 0 (S.A x).1),N,(S.A x).2⟩)):GoodH E S:=by
 refine⟨fun x r hr=>?_,fn,hf,(by rw[hb];rfl),hnm⟩
 obtain⟨h1,h2⟩:=h x r hr _ rfl
 subst hN
 refine GoodB.startE hf hb (of_decide_eq_true h1) extra hd0 ?_
 rw[entryT_sl]
 exact h2
theorem GHs{S:Spec}{x:S.α}{r:S.ρ}{m N:Nat}{fn:Func}{c:Code}{extra:List Nat}{args:List AV}{H:List AObj}{out:Out}(e1:S.A x=(args,H))(e2:S.R x r=out)(em:(S.A x).2.length=m){M:Nat}(eM:H.length=M)(hn:decide (args.length≤N)=true){L:List (Nat×AV)}(hL:enum 0 args=L)
 (h:AW E M c (retB E fn M extra H out) ⟨sl L,N,H⟩):decide ((S.A x).1.length≤N)=true∧AW E m c (retB E fn m extra (S.A x).2 (S.R x r)) ⟨sl (enum 0 (S.A x).1),N,(S.A x).2⟩:=by
 subst em
 rw[e1,e2]
 subst hL eM
 exact⟨hn,h⟩
theorem GH0{S:Spec}(hb:HasBody E S.f)(h:∀x,S.F x=none):GoodH E S:=
 ⟨fun x r hr=>absurd hr (by rw[h x];exact nofun),hb⟩
def pick:List Nat→(Nat→AV)→List (Nat×AV)
 | [],_=>[]
 | k::ks,t=>(k,t k)::pick ks t
theorem pick_nil(t:Nat→AV):pick [] t=[]:=rfl
theorem pick_cons(k:Nat)(ks:List Nat)(t:Nat→AV):pick (k::ks) t=(k,t k)::pick ks t:=rfl
theorem keeps_pick{t:Nat→AV}:∀ks,keeps t (pick ks t)
 | []=>trivial
 | _::ks=>⟨rfl,keeps_pick ks⟩
def LeavesK(ks:List Nat)(L:List (Nat×AV))(h':List AObj):Option St→Prop
 | some σ=>pick ks σ.t=L∧σ.h=h'
 | none=>False
theorem leavesK_some(ks:List Nat)(L:List (Nat×AV))(h':List AObj)(σ:St):LeavesK ks L h' (some σ)=(pick ks σ.t=L∧σ.h=h'):=rfl
theorem LeavesK.of{ks:List Nat}{L:List (Nat×AV)}{h':List AObj}{x:Option St}(h:LeavesK ks L h' x):Leaves L h' x:=by
 cases x with
 | none=>exact h.elim
 | some σ=>
   obtain⟨h1,h2⟩:=h
   subst h1
   exact⟨keeps_pick ks,h2⟩
variable {k:Nat}{Q:Exit→St→Prop}{O:Orc}
theorem AW.rg(hS:Sound E O)(ks:List Nat){id n:Nat}{t:Nat→AV}{h:List AObj}{ops:Array Oper}{L:List (Nat×AV)}{h':List AObj}(hr:LeavesK ks L h' (arun E O ops ops.toList ⟨t,n,h⟩))(hQ:Q .normal ⟨sl L,n,h'⟩):AW E k (.region id ops false) Q ⟨t,n,h⟩:=
 AW.reg hS L h' hr.of hQ
theorem AW.dgk(hP:E.P.follows .mixedOrders=true)(hS:Sound E O)(ks:List Nat){id n:Nat}{t:Nat→AV}{h:List AObj}{ops:Array Oper}(ho:orderOK O.pf ops=true){L:List (Nat×AV)}{h':List AObj}(hr:LeavesK ks L h' (arun E O ops ops.toList ⟨t,n,h⟩))(hQ:Q .normal ⟨sl L,n,h'⟩):AW E k (.region id ops true) Q ⟨t,n,h⟩:=
 AW.dreg hP hS ho L h' hr.of hQ
theorem AW.dgB(hP:E.P.follows .mixedOrders=true)(hS:Sound E O)(B:Bases)(ks:List Nat){id n:Nat}{t:Nat→AV}{h:List AObj}{ops:Array Oper}(hB:(B.all fun p=>baseB (t p.1) p.2)=true)(ho:orderOKB O.pf B ops=true){L:List (Nat×AV)}{h':List AObj}(hr:LeavesK ks L h' (arun E O ops ops.toList ⟨t,n,h⟩))(hQ:Q .normal ⟨sl L,n,h'⟩):AW E k (.region id ops true) Q ⟨t,n,h⟩:=
 AW.dregB hP hS B hB ho L h' hr.of hQ
theorem AW.st{c:Code}{L:List (Nat×AV)}{n:Nat}{h:List AObj}(hh:AW E k c Q ⟨sl L,n,h⟩):AW E k c Q ⟨sl L,n,h⟩:=hh
theorem AW.lp{α:Type}(S:α→St)(p:α→Prop)(μ:α→Nat){c:Code}(a₀:α){σ:St}(hw:Weak E k σ (S a₀))(h0:p a₀)(hr:∀a,p a→AW E k c (thenQ (fun σ'=>∃a',p a'∧Weak E k σ' (S a')∧μ a'<μ a) Q) (S a)):AW E k (.loop c) Q σ:=
 AW.weak hw (AW.loopI S p μ a₀ h0 hr)
theorem AW.iff_{α:Type}{r:α}{b b':Bool}{u v:Option α}(h:(bif b then u else v)=some r){c:Operand}{x y:Code}{σ:St}(hc:ev σ.t c=.pv (.bool b'))(hb:b'=b)(ht:b=true→u=some r→AW E k x Q σ)(hf:b=false→v=some r→AW E k y Q σ):AW E k (.cond c x y) Q σ:=by
 subst hb
 exact AW.cond hc (fun hb=>ht hb (bif_t hb h)) (fun hb=>hf hb (bif_f hb h))
theorem lslice_m{α:Type}(f:α→PV){s t:List α}{lo hi:Int}(h:lslice s lo hi=some t):List.take (hi.toNat-lo.toNat) (List.drop lo.toNat (List.map f s))=List.map f t∧List.take (hi.toNat-lo.toNat) (List.drop lo.toNat s)=t:=by
 have h2:=(lslice_f h).2.2.2.2
 exact⟨by rw[h2,List.map_take,List.map_drop],h2.symm⟩
theorem emakeSlice_str{E:Env}{H:List AObj}{ty e a b c:Nat}{z:Option (List PV)}{k1 k2:IntKind}{n:Int}(h1:E.T ty=some ⟨.slice e,a,b,z⟩)(h2:E.T e=some ⟨.str,1,c,some [.str []]⟩)(h0:0≤n)(hb:n.toNat * c≤140737488355328)(hc:c≠0):
 emakeSlice E H ty (.pv (.int k1 n)) (.pv (.int k2 n))=some (.vec H.length n.toNat,H++[.row e 1 (List.replicate n.toNat (.str [])) false]):=by
 unfold emakeSlice
 simp only[h1,h2,zeroPV]
 rw[if_pos ⟨h0,Int.le_refl _,hb,hc,by decide,rfl⟩]
theorem lslicek_f{α:Type}{s t:List α}{lo hi:Int}(h:lslice s lo hi=some t):(0≤lo)=True∧(0≤hi)=True∧(lo.toNat≤hi.toNat)=True∧(hi.toNat≤s.length)=True:=
 ⟨(lslice_f h).1,(lslice_f h).2.1,(lslice_f h).2.2.1,(lslice_f h).2.2.2.1⟩
theorem appO_n{α:Type}{sz:Nat}{xs ys v:List α}(h:appO sz xs ys=some v):v.length=xs.length+ys.length:=by
 rw[(appO_f h).2,List.length_append]
theorem appO_m{α:Type}(f:α→PV){sz:Nat}{xs ys v:List α}(h:appO sz xs ys=some v):List.map f xs++List.map f ys=List.map f v:=by
 rw[(appO_f h).2,List.map_append]
end
end Go.Abs
namespace Go.Abs
open Go.RowKit
section
variable {E:Env}{O:Orc}{X:XO}{γ₀ γ:List Gh}{H H₀:List AObj}{Φ₀ Φ:Nat→Nat→Prop}{w w₀:World}{σ:St}{a:Act}
variable {k:Nat}{Q:Exit→St→Prop}
def pvAll:List AV→Bool
 | []=>true
 | .pv _::r=>pvAll r
 | _=>false
def arg0:List AV→Bool
 | .ref 0 _::r=>pvAll r
 | _=>false
def obj0:AObj→Bool
 | .var cs=>pvAll cs
 | .gone=>true
 | _=>false
theorem pvAll_locs{H:List AObj}:∀ {az:List AV},pvAll az=true→locsOf H az=[]
 | [],_=>rfl
 | .pv p::r,h=>by
   simp only[locsOf,toPV]
   rw[pvAll_locs (az:=r) h]
   rfl
theorem pvAll_cells:∀ {az:List AV},pvAll az=true→cellLocs az=[]
 | [],_=>rfl
 | .pv p::r,h=>by
   simp only[cellLocs]
   exact pvAll_cells (az:=r) h
theorem pvAll_ren{H:List AObj}{f:Nat→Option Nat}:∀ {az:List AV},pvAll az=true→renArgs H f az=some az
 | [],_=>rfl
 | .pv p::r,h=>by
   simp only[renArgs,toPV]
   rw[pvAll_ren (az:=r) h]
theorem pvAll_renL{f:Nat→Option Nat}:∀ {az:List AV},pvAll az=true→renL f az=some az
 | [],_=>rfl
 | .pv p::r,h=>by
   simp only[renL,AV.ren]
   rw[pvAll_renL (az:=r) h]
theorem pvAll_map{f:Nat→Nat}:∀ {az:List AV},pvAll az=true→az.map (AV.mapL f)=az
 | [],_=>rfl
 | .pv p::r,h=>by
   simp only[List.map_cons,AV.mapL]
   rw[pvAll_map (az:=r) h]
theorem obj0_ren{f:Nat→Option Nat}{o:AObj}(h:obj0 o=true):o.ren f=some o:=by
 cases o with
 | var cs=>simp only[AObj.ren,pvAll_renL (az:=cs) h,Option.map_some]
 | gone=>rfl
 | _=>cases h
theorem obj0_map{f:Nat→Nat}{o:AObj}(h:obj0 o=true):o.mapL f=o:=by
 cases o with
 | var cs=>simp only[AObj.mapL,pvAll_map (az:=cs) h]
 | gone=>rfl
 | _=>cases h
theorem obj0_inner{o:AObj}{rest:List AObj}(h:obj0 o=true):innerLocs (o::rest) [0]=[]:=by
 cases o with
 | var cs=>simp only[innerLocs,List.getElem?_cons_zero,pvAll_cells (az:=cs) h,List.append_nil]
 | gone=>rfl
 | _=>cases h
theorem back0{o o':AObj}{rest:List AObj}(h:obj0 o'=true):backObjs (o::rest) [0] [o']=o'::rest:=by
 unfold backObjs
 rw[show List.drop [0].length [o']=[] from rfl,List.map_nil,List.append_nil]
 refine List.ext_getElem (by simp) fun k h1 h2=>?_
 rw[List.getElem_map,List.getElem_range]
 cases k with
 | zero=>exact obj0_map h
 | succ k=>
   have:idx [0] (k+1)=none:=by
    simp[idx]
   rw[this]
   have hk:k<rest.length:=by simpa using h2
   simp[hk]
theorem ecall0{O:Orc}{f:FuncId}{args:List AV}{o o':AObj}{rs:List AV}(h:O.C f args [o]=some (rs,[o']))(ha:arg0 args=true)(ho:obj0 o=true)(hr:pvAll rs=true)(ho':obj0 o'=true)(rest:List AObj):ecall O (o::rest) f args=some (retAV rs,o'::rest):=by
 match args,ha with
 | .ref 0 k::az,ha=>
   have h1:locsOf (o::rest) (.ref 0 k::az)=[0]:=by
    simp only[locsOf,toPV]
    rw[pvAll_locs (az:=az) ha]
    rfl
   unfold ecall
   simp only[h1,obj0_inner ho,List.append_nil]
   have h2:dedup [0]=[0]:=rfl
   simp only[h2,selObjs,List.getElem?_cons_zero,Option.bind_some,obj0_ren ho,renArgs,toPV,AV.ren,idx,if_true,Option.map_some,pvAll_ren (az:=az) ha,h,List.length_cons,List.length_nil,Nat.le_refl,back0 ho',pvAll_map hr]
theorem ordp{pf:FuncId→Bool}(h:O.pf=pf){ops:Array Oper}(e:orderOK pf ops=true):orderOK O.pf ops=true:=by rw[h];exact e
theorem ordB{pf:FuncId→Bool}(h:O.pf=pf){B:Bases}{ops:Array Oper}(e:orderOKB pf B ops=true):orderOKB O.pf B ops=true:=by rw[h];exact e
end
end Go.Abs
namespace Go.Abs
open Go Go.RowKit
section
variable {P:Program}{c:Code}{Q:Exit→Act→World→Prop}
theorem arrives_rounds(b:Frame)(k:List Item)(cs:List Frame):∀n a w,Code.rounds P c Q n a w→∃e a' w',Q e a' w'∧Arrives P (lone (b.at a (.code c::.inLoop c::k)) cs w) b k cs e a' w':=by
 intro n
 induction n with
 | zero=>intro a w h;exact h.elim
 | succ n ih=>
   intro a w h
   obtain⟨e,a₁,w₁,hq,harr⟩:=h b (.inLoop c::k) cs
   cases e with
   | normal=>
     obtain⟨e₂,a₂,w₂,hq₂,harr₂⟩:=ih a₁ w₁ hq
     exact⟨e₂,a₂,w₂,hq₂,.of_steps (Steps.trans harr (.one step_inLoop)) harr₂⟩
   | exit id=>exact⟨_,a₁,w₁,hq,.pass (x:=.inLoop c) rfl (fun _ _=>.inl (by simp)) harr⟩
   | goto l=>exact⟨_,a₁,w₁,hq,.pass (x:=.inLoop c) rfl (fun _ _=>.inl (by simp)) harr⟩
   | ret=>exact⟨_,a₁,w₁,hq,.pass (x:=.inLoop c) rfl (fun _ _=>.inl (by simp)) harr⟩
   | panic ch=>exact⟨_,a₁,w₁,hq,.pass (x:=.inLoop c) rfl (fun _ _=>.inl (by simp)) harr⟩
   | outgrown=>exact⟨_,a₁,w₁,hq,.pass (x:=.inLoop c) rfl (fun _ _=>.inl (by simp)) harr⟩
theorem wp_loop_first{a:Act}{w:World}(h:c.wp P (Exit.then (fun a' w'=>∃n,Code.rounds P c Q n a' w') Q) a w):(Code.loop c).wp P Q a w:=by
 intro b k cs
 obtain⟨e,a₁,w₁,hq,harr⟩:=h b (.inLoop c::k) cs
 cases e with
 | normal=>
   obtain⟨n,hn⟩:=hq
   obtain⟨e₂,a₂,w₂,hq₂,harr₂⟩:=arrives_rounds b k cs n a₁ w₁ hn
   exact⟨e₂,a₂,w₂,hq₂,.of_steps (.one step_loop) (.of_steps (Steps.trans harr (.one step_inLoop)) harr₂)⟩
 | exit id=>exact⟨_,a₁,w₁,hq,.of_steps (.one step_loop) (.pass (x:=.inLoop c) rfl (fun _ _=>.inl (by simp)) harr)⟩
 | goto l=>exact⟨_,a₁,w₁,hq,.of_steps (.one step_loop) (.pass (x:=.inLoop c) rfl (fun _ _=>.inl (by simp)) harr)⟩
 | ret=>exact⟨_,a₁,w₁,hq,.of_steps (.one step_loop) (.pass (x:=.inLoop c) rfl (fun _ _=>.inl (by simp)) harr)⟩
 | panic ch=>exact⟨_,a₁,w₁,hq,.of_steps (.one step_loop) (.pass (x:=.inLoop c) rfl (fun _ _=>.inl (by simp)) harr)⟩
 | outgrown=>exact⟨_,a₁,w₁,hq,.of_steps (b:=b) (k:=k) (cs:=cs) (e:=.outgrown) (.one step_loop) (.pass (x:=.inLoop c) rfl (fun _ _=>.inl (by simp)) harr)⟩
end
section
variable {E:Env}{k:Nat}{Q:Exit→St→Prop}
theorem AW.lp1{α:Type}(S:α→St)(p:α→Prop)(μ:α→Nat){c:Code}{σ:St}(h1:AW E k c (thenQ (fun σ'=>∃a',p a'∧Weak E k σ' (S a')) Q) σ)
 (hr:∀a,p a→AW E k c (thenQ (fun σ'=>∃a',p a'∧Weak E k σ' (S a')∧μ a'<μ a) Q) (S a)):AW E k (.loop c) Q σ:=by
 intro γ₀ H₀ Φ₀ w₀ a w hl hR
 have rounds:∀n x a w,μ x<n→p x→Rel E γ₀ H₀ Φ₀ w₀ (S x) a w→Code.rounds E.P c (fun e a' w'=>∃σ',Rel E γ₀ H₀ Φ₀ w₀ σ' a' w'∧Q e σ') n a w:=by
  intro n
  induction n with
  | zero=>intro x a w h;omega
  | succ n ih=>
    intro x a w hm hp hR
    rw[rounds_succ]
    refine wp_mono (hr x hp γ₀ H₀ Φ₀ w₀ a w hl hR) (fun e a' w' ⟨σ',hR',hQ⟩=>?_)
    cases e with
    | normal=>
      obtain⟨x',hp',hw,hlt⟩:=hQ
      exact ih x' a' w' (by omega) hp' (hw γ₀ H₀ Φ₀ w₀ a' w' hl hR')
    | _=>exact⟨σ',hR',hQ⟩
 refine wp_loop_first (wp_mono (h1 γ₀ H₀ Φ₀ w₀ a w hl hR) (fun e a' w' ⟨σ',hR',hQ⟩=>?_))
 cases e with
 | normal=>
   obtain⟨x',hp',hw⟩:=hQ
   exact⟨μ x'+1,rounds _ x' a' w' (by omega) hp' (hw γ₀ H₀ Φ₀ w₀ a' w' hl hR')⟩
 | _=>exact⟨σ',hR',hQ⟩
end
end Go.Abs
namespace Go.Abs
open Go Go.RowKit
def b8(n:Int):UInt8:=UInt8.ofNat n.toNat
end Go.Abs
namespace Go.Abs
open Go Go.RowKit
def Env.wd(E:Env)(D:List Deferred):Env:={ E with dfs:=D }
section
variable {E:Env}{D:List Deferred}{γ γ₀:List Gh}{H H₀:List AObj}{Φ Φ₀:Nat→Nat→Prop}{w w₀:World}
theorem ObjRel.wd{o:AObj}{g:Gh}:ObjRel (E.wd D) γ H Φ w o g↔ObjRel E γ H Φ w o g:=by
 cases o<;>exact Iff.rfl
theorem OInv.wd:OInv (E.wd D) γ H Φ w↔OInv E γ H Φ w:=
 ⟨fun h=>⟨h.len,fun l o g ho hg=>ObjRel.wd.1 (h.obj l o g ho hg),h.disj,h.own,h.phi,h.gi,h.gn⟩,
  fun h=>⟨h.len,fun l o g ho hg=>ObjRel.wd.2 (h.obj l o g ho hg),h.disj,h.own,h.phi,h.gi,h.gn⟩⟩
theorem Ok.wd:Ok (E.wd D) γ₀ H₀ Φ₀ w₀ γ H Φ w↔Ok E γ₀ H₀ Φ₀ w₀ γ H Φ w:=
 ⟨fun h=>⟨OInv.wd.1 h.inv,h.evo,h.since⟩,fun h=>⟨OInv.wd.2 h.inv,h.evo,h.since⟩⟩
theorem Good.wd{f:FuncId}{args:List AV}{rs:List AV}{H':List AObj}(h:Good E f args H rs H'):Good (E.wd D) f args H rs H':=by
 intro w Φ γ cargs hI hl hr
 refine(h w Φ γ cargs (OInv.wd.1 hI) hl hr).mono ?_
 rintro e w' ⟨vs,γ',Φ',h1,h2,h3,h4⟩
 exact⟨vs,γ',Φ',h1,Ok.wd.2 h2,h3,h4⟩
theorem GoodX.wd{f:FuncId}{args:List AV}{v:Value}(h:GoodX E f args H v):GoodX (E.wd D) f args H v:=by
 intro w Φ γ cargs hI hl hr
 refine(h w Φ γ cargs (OInv.wd.1 hI) hl hr).mono ?_
 rintro e w' ⟨γ',Φ',h1,h2⟩
 exact⟨γ',Φ',h1,Ok.wd.2 h2⟩
theorem GoodH.wd{S:Spec}(h:GoodH E S):GoodH (E.wd D) S:=by
 refine⟨fun x r hr=>?_,h.2⟩
 have:=h.1 x r hr
 generalize S.R x r=o at this
 cases o with
 | ret rs H'=>exact Good.wd this
 | boom v=>exact GoodX.wd this
theorem AllG.wd:∀ {L:List Spec},AllG E L→AllG (E.wd D) L
 | [],_=>trivial
 | _::_,h=>⟨h.1.wd,AllG.wd h.2⟩
theorem rel_entry(hI:OInv E γ H Φ w){args:List AV}{cargs:List Value}(hl:cargs.length=args.length)(hr:∀ (i:Nat) v a,cargs[i]?=some v→args[i]?=some a→ARel γ H Φ w v a){N:Nat}(hn:args.length≤N)(hd0:E.dfs=[]):
 Rel E γ H Φ w ⟨entryT args,N,H⟩ { tmps:=(⟨cargs⟩:Array Value)++Array.replicate (N-(⟨cargs⟩:Array Value).size) undef,defers:=[] } w:=by
 refine⟨⟨γ,Φ,.refl hI,fun i=>?_⟩,?_,hd0.symm,hI.len⟩
 ·show ARel γ H Φ w _ (args.getD i .any)
  rw[List.getD_eq_getElem?_getD]
  by_cases hi:i<args.length
  ·rw[List.getElem?_eq_getElem hi]
   have hi':i<cargs.length:=by omega
   refine hr i _ _ ?_ (List.getElem?_eq_getElem hi)
   rw[List.getElem?_eq_getElem hi']
   simp[Array.getD_eq_getD_getElem?,Array.getElem?_append,hi']
  rw[List.getElem?_eq_none (by omega)]
  exact .any _
 show((⟨cargs⟩:Array Value)++Array.replicate (N-(⟨cargs⟩:Array Value).size) undef).size=N
 simp
 omega
end
end Go.Abs
namespace Go.Abs
open Go.RowKit
def oPV{α:Type}(f:α→PV):Option (List α)→PV
 | none=>.snil
 | some xs=>.slice (xs.map f)
theorem oPV_none{α:Type}(f:α→PV):oPV f none=.snil:=rfl
theorem oPV_some{α:Type}(f:α→PV)(xs:List α):oPV f (some xs)=.slice (xs.map f):=rfl
theorem oPV_inj{α:Type}{f:α→PV}(hf:∀x y,f x=f y→x=y):∀ {x y:Option (List α)},oPV f x=oPV f y→x=y
 | none,none,_=>rfl
 | none,some _,h=>by cases h
 | some _,none,h=>by cases h
 | some xs,some ys,h=>congrArg some (map_inj_of hf (PV.slice.inj h))
section
variable {T:Nat→Option TI}{α:Type}
theorem qlen_o{t e:TypeId}{s b:Nat}{z:Option (List PV)}(hT:T t=some ⟨.slice e,s,b,z⟩){H:List AObj}(f:α→PV)(x:Option (List α)):qlen T H t (.pv (oPV f x))=some (.pv (.int .i64 ((x.getD []).length:Nat))):=by
 cases x with
 | none=>simp only[oPV_none,qlen,hT];rfl
 | some xs=>simp only[oPV_some,qlen,hT,List.length_map,Option.getD_some]
theorem oPV_idx{f:α→PV}{x:Option (List α)}{i:Nat}{u:α}(h:(x.getD [])[i]?=some u):oPV f x=.slice (List.map f (x.getD [])):=by
 cases x with
 | none=>simp at h
 | some xs=>rfl
end
theorem emakeSlice_0{E:Env}{H:List AObj}{ty e a b:Nat}{zz:Option (List PV)}{te:TI}{z:PV}{k1 k2:IntKind}{n:Int}(h1:E.T ty=some ⟨.slice e,a,b,zz⟩)(h2:E.T e=some te)(hz:zeroPV te=some z)(hs:z.cells.length=te.size)(h0:0≤n)(hb:n.toNat * te.bytes≤140737488355328)(hc:te.bytes≠0)(hn:te.size≠0):
 emakeSlice E H ty (.pv (.int k1 0)) (.pv (.int k2 n))=some (.vec H.length 0,H++[.row e te.size [] false]):=by
 unfold emakeSlice
 simp only[h1,h2,hz]
 rw[if_pos ⟨Int.le_refl _,h0,hb,hc,hn,hs⟩]
 rfl
def bytesO(xs:List Int):Option (List UInt8):=bytesPV (List.map (PV.int .u8) xs)
theorem bytesO_f{xs:List Int}{s:List UInt8}(h:bytesO xs=some s):bytesPV (List.map (PV.int .u8) xs)=some s:=h
def shlO(k _j:IntKind)(a b:Int):Option Int:=if b<0 then none else some (k.wrap (a * 2 ^ (min b.toNat k.bits)))
def shrO(k _j:IntKind)(a b:Int):Option Int:=if b<0 then none else some (a.fdiv (2 ^ (min b.toNat k.bits)))
theorem shlO_f{k j:IntKind}{a b n:Int}(h:shlO k j a b=some n):(b<0)=False∧k.wrap (a * 2 ^ (min b.toNat k.bits))=n:=by
 unfold shlO at h
 split at h
 ·cases h
 rename_i hb
 exact⟨eq_false hb,Option.some.inj h⟩
theorem shrO_f{k j:IntKind}{a b n:Int}(h:shrO k j a b=some n):(b<0)=False∧a.fdiv (2 ^ (min b.toNat k.bits))=n:=by
 unfold shrO at h
 split at h
 ·cases h
 rename_i hb
 exact⟨eq_false hb,Option.some.inj h⟩
theorem shrO_g{g:Bool}{k j:IntKind}{a b n:Int}(h:g=true→shrO k j a b=some n):(g=true→(b<0)=False)∧(g=true→a.fdiv (2 ^ (min b.toNat k.bits))=n):=⟨fun e=>(shrO_f (h e)).1,fun e=>(shrO_f (h e)).2⟩
theorem quoO_f{k:IntKind}{a b n:Int}(h:quoO k a b=some n):(b=0)=False∧k.wrap (a.tdiv b)=n:=by
 unfold quoO at h
 split at h
 ·cases h
 rename_i hb
 exact⟨eq_false hb,Option.some.inj h⟩
theorem quoO_g{g:Bool}{k:IntKind}{a b n:Int}(h:g=true→quoO k a b=some n):(g=true→(b=0)=False)∧(g=true→k.wrap (a.tdiv b)=n):=⟨fun e=>(quoO_f (h e)).1,fun e=>(quoO_f (h e)).2⟩
theorem o_f{α:Type}{x:Option α}{v:α}(h:x=some v):x=some v:=h
def sameO{α:Type}(xs ys:List α):Option Unit:=if xs.length=ys.length then some ()else none
theorem sameO_f{α:Type}{xs ys:List α}{u:Unit}(h:sameO xs ys=some u):ys.length=xs.length:=by
 unfold sameO at h
 split at h
 ·rename_i e
  exact e.symm
 cases h
def nilO{α:Type}:Option α→Option Unit
 | none=>some ()
 | some _=>none
theorem nilO_f{α:Type}{x:Option α}{u:Unit}(h:nilO x=some u):x=none:=by
 cases x with
 | none=>rfl
 | some _=>cases h
section
variable {E:Env}{σ:St}{k:Nat}
end
end Go.Abs
