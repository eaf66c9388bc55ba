import Derived.Test.YtljahlbklgnfhaaGreatDoorA35
import Derived.Test.YtljahlbklgnfhaaGreatDoorA21
import Derived.Test.YtljahlbklgnfhaaGreatDoorA28
import Derived.Lib.LaidTab
set_option linter.unusedVariables false
set_option linter.unusedSimpArgs false
set_option linter.defProp false
namespace Go.Abs
open Go.RowKit
section
variable {E:Env}{O:Orc}{σ σ':St}{k:Nat}{Q:Exit->St->Prop}
theorem AW.cases(b:Bool){c:Code}(a:b=true->AW E k c Q σ)(d:b=false->AW E k c Q σ):AW E k c Q σ:=by
 cases b with
 | true=>exact a rfl
 | false=>exact d rfl
theorem AW.after{c:Code}(h:AW E k c (Z2e (λσ'=>∃σ'',Weak E k σ' σ''/\Q .normal σ'') Q) σ):AW E k c Q σ:=by
 intro γ₀ H₀ Φ₀ w₀ a w b i
 refine wp_mono (h γ₀ H₀ Φ₀ w₀ a w b i) (λe j w' ⟨σ',d,g⟩=>?_)
 cases e with
 | normal=>
   obtain⟨σ'',l,hq⟩:=g
   exact⟨σ'',l γ₀ H₀ Φ₀ w₀ j w' b d,hq⟩
 | _=>exact⟨σ',d,g⟩
theorem Weak.ownC(l j:Nat)(e:TypeId)(sz:Nat)(I:0<sz){cs:List AV}(q:σ.h[l]?=some (.var cs))(r:cs[j]?=some .nils):
 Weak E k σ ⟨σ.t,σ.n,σ.h.set l (.var (cs.set j (.vec σ.h.length 0)))++[.row e sz [] true]⟩:=by
 intro γ₀ H₀ Φ₀ w₀ a w Y J
 obtain⟨⟨γ,Φ,t,hs⟩,K,hd,L⟩:=J
 have M:w.ownsRow 0 e sz (.slice none 0 0) ([]:List PV).length []:=G5b w 0 e sz
 obtain⟨aa,Φ',hk,N⟩:=Z3r (v:=.slice none 0 0) t.inv M ⟨rfl,rfl,rfl,G0r _,.inr ⟨rfl,rfl,λ_ _=>rfl⟩⟩ rfl ⟨rfl,λc d=>by simp[Q4h]at d,λk v c m _=>by simp at m⟩ (λz S=>by cases S) I true
 have u:l<σ.h.length:=(G0j.1 q).1
 have x:(σ.h++[AObj.row e sz [] true])[l]?=some (.var cs):=by rw[G0q u];exact q
 obtain⟨g,y,U⟩:=hk.inv.gh x
 obtain⟨b,T,vs,m,V,hb,W,A,C⟩:=U
 have X:j<cs.length:=(G0j.1 r).1
 have n:=hk.inv.setObj (o':=.var (cs.set j (.vec σ.h.length 0))) (g':=g) (w':=w) (Φ':=Φ') x y (λ_ _ _=>rfl) (G0r _) rfl rfl rfl (λ_ _ h=>h)
  (λ_ _ h _ _=>h) (λb k h=>hk.inv.phi b k h) (λ_ _ _ _=>rfl) (λb hb=>⟨.inl hb,(hk.inv.own l g y b hb).2⟩) (.inl rfl)
  (λe1 ad n1 h=>by cases h)
  (λD=>⟨b,T,vs,m,V,hb,by simpa using W,λi v c F d=>by
    by_cases H:i=j
    ·subst H
     rw[G1u X]at d
     injection d with d
     subst d
     obtain⟨o,p⟩:=A i v _ F r
     refine⟨o,?_⟩
     cases p
     exact N.mono D
    ·rw[G2b (Ne.symm H)]at d
     obtain⟨o,p⟩:=A i v c F d
     exact⟨o,p.mono D⟩,C.1,λc d hs=>by
    rcases G4s d with d|rfl
    ·exact C.2 c d hs
    cases hs⟩)
 rw[List.set_append_left l _ u]at n
 exact⟨⟨_,_,(t.trans hk).trans n,λi=>((hs i).mono hk.evo).mono n.evo⟩,K,hd,L⟩
def renS(f:Nat->Option Nat):List (Nat×AV)->Option (List (Nat×AV))
 | []=>some []
 | (i,a)::r=>match a.ren f,renS f r with
   | some b,some s=>some ((i,b)::s)
   | _,_=>none
theorem X7e{f:Nat->Option Nat}:∀ {L d:List (Nat×AV)},renS f L=some d->∀i,sl d i=.any\/(sl L i).ren f=some (sl d i)
 | [],d,h,i=>by
   simp only[renS,G0c]at h
   subst h
   exact .inl rfl
 | (j,a)::r,d,h,i=>by
   simp only[renS]at h
   split at h
   ·rename_i b s hb hs
    simp only[G0c]at h
    subst h
    simp only[sl]
    split
    ·exact .inr hb
    exact X7e hs i
   cases h
theorem Weak.sel(b:List Nat){t:Nat->AV}{n:Nat}{H Hs:List AObj}{L d:List (Nat×AV)}(l:Q8x t L)(m:(List.range k++b).Nodup)(hs:Q1c H (idx (List.range k++b)) (List.range k++b)=some Hs)
 (o:renS (idx (List.range k++b)) L=some d):Weak E k ⟨t,n,H⟩ ⟨sl d,n,Hs⟩:=by
 intro γ₀ H₀ Φ₀ w₀ a w hk p
 obtain⟨⟨γ,Φ,g,q⟩,r,hd,j⟩:=p
 subst hk
 refine⟨⟨_,Φ,g.sel j m hs,λi=>?_⟩,r,hd,j⟩
 show ARel _ _ Φ w _ (sl d i)
 rcases X7e o i with h|h
 ·rw[h]
  exact .any _
 rcases Q6n l i with e|e
 ·have:=q i
  rw[e]at h
  exact this.select g.inv hs h
 rw[e]at h
 simp only[AV.ren,G0c]at h
 rw[<-h]
 exact .any _
end
theorem X8q(i:Nat):Z8i (.tmp i)=false:=rfl
theorem X4y(i:Nat):Z8i (.func i)=false:=rfl
theorem X8t(k:IntKind)(n:Int):Z8i (.const (.int k n))=false:=rfl
theorem X4z(b:Bool):Z8i (.const (.bool b))=false:=rfl
theorem X8r(s:ByteArray):Z8i (.const (.string s))=false:=rfl
theorem J8l(a:Option Addr)(n c:Nat):Z8i (.const (.slice a n c))=false:=rfl
theorem X8s:Z8i (.const .nilIface)=true:=rfl
theorem J5k{T:Nat->Option TI}{t a b:Nat}{c:Option (List PV)}(h:T t=some ⟨.iface,a,b,c⟩)(x:Bool):J5l T .eql t (.pv (bif x then PV.ifc else PV.nil))=some (.pv (.bool !x)):=by
 cases x<;>simp only[G1a,G0v,J5l,h]<;>rfl
theorem J5j{T:Nat->Option TI}{t a b:Nat}{c:Option (List PV)}(h:T t=some ⟨.iface,a,b,c⟩)(x:Bool):J5l T .neq t (.pv (bif x then PV.ifc else PV.nil))=some (.pv (.bool x)):=by
 cases x<;>simp only[G1a,G0v,J5l,h]<;>rfl
theorem K3j(l o:Nat):qnil (.ref l o)=some (.ref l o):=rfl
theorem X7n(cs:List PV):qnil (.pptr cs)=some (.pptr cs):=rfl
theorem X7m(l n i o:Nat):qnil (.vptr l n i o)=some (.vptr l n i o):=rfl
theorem K4z(H:List AObj)(cs:List AV):ebox H (.agg cs)=if noS cs=true then some (.ref H.length 0,H++[.var cs])else none:=rfl
theorem Y5h(k a:IntKind)(x y:Int):mm2 false (.pv (.int k x)) (.pv (.int a y))=some (.pv (.int k (imin x y))):=rfl
theorem Y5g(k a:IntKind)(x y:Int):mm2 true (.pv (.int k x)) (.pv (.int a y))=some (.pv (.int k (imax x y))):=rfl
end Go.Abs
namespace Go.Abs
def RUN0:=aj @V0z (aj @V0y (aj @X6r (aj @K9f (aj @K5k (aj @K0o (aj @Q9i.eq_1 (aj @aop.eq_1 (aj @qval.eq_1 (aj @qval.eq_2 (aj @qval.eq_3 (aj @qval.eq_4 (aj @qval.eq_5 (aj @qval.eq_6 (aj @qval.eq_7 (aj @qval.eq_8 (aj @qval.eq_9 (aj @qval.eq_10 (aj @qval.eq_11 (@qval.eq_12)))))))))))))))))))
def RUN1:=aj @qval.eq_13 (aj @qval.eq_14 (aj @qval.eq_15 (aj @qval.eq_16 (aj @qval.eq_17 (aj @V4i (aj @K9i (aj @V4t (aj @ev.eq_1 (aj @ev.eq_2 (aj @ev.eq_3 (aj @put.eq_1 (aj @put.eq_2 (aj @bind_some (aj @J8i (aj @X4w (aj @X8n (aj @enum.eq_1 (aj @enum.eq_2 (@Option.map_some.{0,0})))))))))))))))))))
def RUN2:=aj @Option.bind_some.{0,0} (aj @Q8a.eq_1 (aj @Q8a.eq_2 (aj @Q8a.eq_3 (aj @Q8a.eq_4 (aj @Q8a.eq_5 (aj @Q8a.eq_6 (aj @pbin.eq_1 (aj @pbin.eq_2 (aj @pbin.eq_3 (aj @pbin.eq_4 (aj @pbin.eq_5 (aj @pbin.eq_6 (aj @pbin.eq_7 (aj @pbin.eq_8 (aj @pbin.eq_9 (aj @pbin.eq_10 (aj @pbin.eq_11 (aj @pbin.eq_12 (@pbin.eq_13)))))))))))))))))))
def RUN3:=aj @pbin.eq_14 (aj @pbin.eq_15 (aj @pbin.eq_16 (aj @pbin.eq_17 (aj @pbin.eq_18 (aj @pbin.eq_19 (aj @pbin.eq_20 (aj @pbin.eq_21 (aj @pbin.eq_22 (aj @pbin.eq_23 (aj @pbin.eq_24 (aj @pbin.eq_25 (aj @pbin.eq_26 (aj @qbin.eq_1 (aj @qbin.eq_2 (aj @qbin.eq_3 (aj @qbin.eq_4 (aj @qbin.eq_5 (aj @qun.eq_1 (@qun.eq_2)))))))))))))))))))
def RUN4:=aj @qun.eq_3 (aj @qun.eq_4 (aj @qun.eq_5 (aj @nrm.eq_1 (aj @nrm.eq_2 (aj @nrm.eq_3 (aj @qlen.eq_1 (aj @qlen.eq_2 (aj @qlen.eq_3 (aj @qlen.eq_4 (aj @qlen.eq_4 (aj @Q1j.eq_1 (aj @Q1j.eq_2 (aj @Z6n.eq_1 (aj @Z6n.eq_2 (aj @Q3j.eq_1 (aj @Z7o.eq_1 (aj @Q5o.eq_1 (aj @Q7e.eq_1 (@Z5g.eq_1)))))))))))))))))))
def RUN5:=aj @Z5g.eq_2 (aj @Q8b.eq_1 (aj @Q8b.eq_2 (aj @Q8b.eq_3 (aj @toPV.eq_1 (aj @toPV.eq_2 (aj @toPV.eq_3 (aj @toPV.eq_4 (aj @toPV.eq_5 (aj @J6o.eq_1 (aj @ebox.eq_1 (aj @ebox.eq_2 (aj @ebox.eq_3 (aj @ebox.eq_4 (aj @ebox.eq_5 (aj @ebox.eq_6 (aj @ebox.eq_7 (aj @J6l.eq_1 (aj @zAV.eq_1 (@zAV.eq_2)))))))))))))))))))
def RUN6:=aj @one1.eq_1 (aj @one1.eq_2 (aj @one1.eq_3 (aj @one1.eq_4 (aj @one1.eq_5 (aj @one1.eq_6 (aj @one1.eq_6 (aj @Z9a.eq_1 (aj @Z9a.eq_2 (aj @Z9a.eq_3 (aj @PV.one.eq_1 (aj @PV.one.eq_2 (aj @PV.one.eq_1 (aj @List.set_cons_zero.{0} (aj @List.set_cons_succ.{0} (aj @List.map_cons.{0,0} (aj @List.map_nil.{0,0} (aj @List.cons_append.{0} (aj @List.nil_append.{0} (@List.append_nil.{0})))))))))))))))))))
def RUN7:=aj @Option.some.injEq.{0} (aj @Nat.add_zero (aj @Nat.zero_le (aj @decide_true (aj @decide_false (aj @List.length_map.{0,0} (aj @List.drop_zero.{0} (aj @List.drop_succ_cons.{0} (aj @List.drop_nil.{0} (aj @List.length_cons.{0} (aj @List.length_nil.{0} (aj @Nat.zero_add (aj @List.take_succ_cons.{0} (aj @List.take_zero.{0} (aj @List.take_nil.{0} (aj @Nat.le_refl (aj @List.getElem?_toArray.{0} (aj @List.getElem?_cons_zero.{0} (aj @List.getElem?_cons_succ.{0} (@decide_eq_true_eq)))))))))))))))))))
def RUN8:=aj @and_true (aj @true_and (aj @and_self (aj @Bool.not_true (aj @Bool.not_false (aj @List.size_toArray.{0} (aj @Int.toNat_natCast (aj @Int.natCast_nonneg (aj @Bool.true_eq_false (aj @Bool.false_eq_true (aj @ge_iff_le.{0} (aj @gt_iff_lt.{0} (aj @List.getElem?_map.{0,0} (aj @K0e (aj @K0c (aj @K0d (aj @X5g (aj @J9d (aj @Z7t.eq_1 (@J0a.eq_1)))))))))))))))))))
def RUN9:=aj @J0a.eq_2 (aj @Q3c.eq_1 (aj @Q3f.eq_1 (aj @Q9b.eq_1 (aj @Q9b.eq_2 (aj @Z0i.eq_1 (aj @Z0i.eq_2 (aj @Z0i.eq_3 (aj @Z0i.eq_4 (aj @Z0i.eq_5 (aj @Q6t.eq_1 (aj @Q6t.eq_2 (aj @Z4d.eq_1 (aj @Option.isSome_some.{0} (aj @not_false_eq_true (aj @List.all_cons.{0} (aj @List.all_nil.{0} (aj @beq_self_eq_true.{0} (aj @Bool.and_true (aj @Nat.succ_ne_self (aj @Nat.one_ne_zero (aj @Nat.add_one_ne_zero (aj @Q6w.eq_1 (aj @Q6w.eq_2 (aj @X4m.eq_1 (aj @Q6t.eq_1 (@Q6t.eq_2))))))))))))))))))))))))))
def Y9a:=aj @List.length_append.{0} (aj @List.map_append.{0,0} (aj @V5r (aj @List.isEmpty_cons.{0} (aj @Bool.true_and (aj @Bool.false_and (aj @Bool.and_false (aj @Bool.true_or (aj @Bool.false_or (aj @Bool.or_true (@Bool.or_false))))))))))
def Y8z:=aj @qeq.eq_1 (aj @qeq.eq_2 (aj @pvEq.eq_1 (aj @pvEq.eq_2 (aj @pvEq.eq_3 (aj @Q2l.eq_1 (aj @Q2l.eq_2 @Option.map_none.{0,0}))))))
def Y8y:=aj @X8q (aj @X4y (aj @X8t (aj @X4z (aj @X8r (aj @J8l (aj X8s (aj @qmm.eq_1 (aj @mmL.eq_1 (aj @mmL.eq_2 (aj @Y5h (aj @Y5g (aj @Z7s.eq_1 (aj @Z7q.eq_1 (aj @Z7q.eq_2 (aj @Q2o.eq_1 (aj @Q2o.eq_2 (aj @Q2o.eq_3 (aj @Q2o.eq_4 (aj @Q2o.eq_5 (aj @Q2o.eq_6 (aj @K4z (aj @Q9e.eq_1 (aj @K3j (aj @X7n (aj @X7m (aj @List.length_set.{0} (aj @List.map_set.{0,0} @List.append_eq.{0})))))))))))))))))))))))))))
def Y8x:=aj @noS.eq_1 (aj @noS.eq_2 (aj @AV.isS.eq_3 (aj @AV.isS.eq_4 (aj @AV.isS.eq_6 (aj @AV.isS.eq_8 (aj @AV.isS.eq_9 (aj @AV.isS.eq_10 (aj @X7r (aj @rowAt.eq_1 (aj @Q1y.eq_1 (aj @Q1y.eq_2 (aj @Q1y.eq_3 (aj @Z9a.eq_3 (aj @Z2i.eq_1 (aj @Z2i.eq_2 @Option.map_some.{0,0})))))))))))))))
def RUNS:=aj Y8x (aj RUN0 (aj RUN1 (aj RUN2 (aj RUN3 (aj RUN4 (aj RUN5 (aj RUN6 (aj RUN7 (aj RUN8 (aj RUN9 (aj Y8z (aj Y8y (@Y9a)))))))))))))
def Q1x:=aj G0x (aj G3b (aj G4t (aj G2k (aj G2x (aj G2s (aj G7h G3l))))))
def HBS:=aj @Bool.not_eq_false (aj @Bool.not_eq_true (aj @Bool.not_eq_true' (aj @Bool.not_eq_false' (aj @decide_eq_false_iff_not (aj @decide_eq_true_eq @Decidable.not_not)))))
def CLOS:=aj V5c (aj V5b (aj Q1x (aj @Bool.or_eq_true (aj @Bool.and_eq_true (aj @Bool.not_eq_true' (aj @Bool.or_eq_false_iff (aj @Bool.and_eq_false_imp (aj @decide_eq_true_eq (aj @decide_eq_false_iff_not (aj @true_and (aj Bool.true_eq_false (aj G3a (aj @false_iff (aj @true_iff (aj @iff_true @iff_false)))))))))))))))
end Go.Abs
namespace Go.Abs
open Go.RowKit
def ekB:EK->TypeDesc->Bool
 | .bool,.bool=>true
 | .str,.string=>true
 | .int,.int _=>true
 | _,_=>false
theorem K4y{k:EK}{d:TypeDesc}(h:ekB k d=true):k.fits d:=by
 cases k<;>cases d<;>simp_all [ekB,EK.fits]
def Q3s(P:Program):Nat->Nat->List Field->List EK->Bool
 | _,_,[],[]=>true
 | n+1,i,f::b,ks=>f.name != "_"&&f.offset==i&&(match P.underlying f.type with
   | some (.struct sub)=>(match P.info? f.type with
     | some a=>!P.stoodInHeld f.type&&decide (a.size<=ks.length)&&Q3s P n 0 sub.toList (ks.take a.size)&&Q3s P n (i+a.size) b (ks.drop a.size)
     | none=>false)
   | some d=>(match ks with
     | k::ks=>ekB k d&&Q3s P n (i+1) b ks
     | []=>false)
   | none=>false)
 | _,_,_,_=>false
theorem Q3r{P:Program}:∀ {n i:Nat} {b:List Field} {ks:List EK},Q3s P n i b ks=true->FitsF P n b i ks
 | n,i,[],[],_=>.nil n i
 | 0,i,[],k::ks,h=>by simp[Q3s]at h
 | n+1,i,[],k::ks,h=>by simp[Q3s]at h
 | 0,i,f::b,ks,h=>by simp[Q3s]at h
 | n+1,i,f::b,ks,h=>by
   simp only[Q3s,G0d,G6w,G3o]at h
   obtain⟨⟨e,g⟩,a⟩:=h
   split at a
   ·rename_i sub hd
    split at a
    ·rename_i j m
     simp only[G0d,G5c,G0l]at a
     obtain⟨⟨⟨o,r⟩,p⟩,q⟩:=a
     have l:(ks.take j.size).length=j.size:=by rw[G1v];omega
     have:=FitsF.sub (P:=P) e g hd o m l.symm (Q3r p) (by rw[l];exact Q3r q)
     rwa [G2t]at this
    cases a
   ·rename_i d t hd
    split at a
    ·rename_i k ks
     simp only[G0d]at a
     exact .one e g hd (K4y a.1) (Q3r a.2)
    cases a
   cases a
def J3q(P:Program)(t:TypeId)(ks:List EK):Bool:=
 match P.underlying t with
 | some (.struct fields)=>!P.stoodInHeld t&&!P.eqGuardType P.depth t&&Q3s P 100 0 fields.toList ks
 | _=>false
theorem J3p{P:Program}{t:TypeId}{ks:List EK}(h:J3q P t ks=true):EqOne P t ks:=by
 unfold J3q at h
 split at h
 ·rename_i fields a
  simp only[G0d,G5c]at h
  obtain⟨⟨b,d⟩,e⟩:=h
  exact⟨fields,a,b,d,100,by omega,Q3r e⟩
 cases h
def X9o(tab:List (TypeId×List EK))(t:TypeId):Option (List EK):=(tab.find? λp=>p.1==t).map (·.2)
theorem J6m{P:Program}{tab:List (TypeId×List EK)}(h:tab.all (λp=>J3q P p.1 p.2)=true){t:TypeId}{ks:List EK}(a:X9o tab t=some ks):EqOne P t ks:=by
 unfold X9o at a
 obtain⟨p,b,e⟩:=G0k.1 a
 have g:=G0p.1 h p (G8c b)
 have d:=G8o b
 simp only[G3o]at d
 subst d e
 exact J3p g
end Go.Abs
namespace Go.Abs
theorem J8o{H:Type}{enc:TypeId×Value->H}{P:Program}{w:World}{base:Nat}{sp:Nat->Bool}{b:Bool}{a:Nat}{t:TypeId}{ms:Array (String×TypeId)}{cs:List Value}{x:DataW H×List MemPlace}(d:P.underlying t=some (.interface ms))
 (h:DataW.trod enc P w base sp b a t cs=some x):∃ev,cs=[ev]/\(ev=.nilIface\/∃e g,ev=.iface e g):=by
 cases a with
 | zero=>simp[DataW.trod]at h
 | succ n=>
   unfold DataW.trod at h
   rw[d]at h
   split at h<;>simp_all
theorem Z5l{P:Program}{w:World}{n:String}{d:DataW Unit}{g t:Nat}{ms:Array (String×TypeId)}(i:P.globalNamed n=some g)(j:(P.globals[g]?).map (·.type)=some t)(m:P.underlying t=some (.interface ms)):
 ∀ {l:List (String×DataW Unit)} {ps:List MemPlace},DataW.LaidVars P w l ps->(n,d)∈l->∃ev,w.cell? ⟨g,0,none⟩=some ev/\(ev=.nilIface\/∃u x,ev=.iface u x)
 | [],_,_,b=>by cases b
 | (H,I)::r,ps,h,b=>by
   obtain⟨g',J,cs,K,p,q,o,y,a,A,C,_⟩:=h
   rcases G1j.1 b with e|e
   ·cases e
    obtain rfl:=G3p (i.symm.trans o)
    obtain rfl:=G3p (j.symm.trans y)
    obtain⟨ev,D,hk⟩:=J8o m A
    refine⟨ev,?_,hk⟩
    unfold World.var? at a
    rw[o]at a
    simp only[G0a]at a
    split at a
    ·rename_i cs' T z F
     simp only[G0c]at a
     subst a
     have:cs'=#[ev]:=by
      apply G6h
      simpa using D
     simp[World.cell?,F,this]
    cases a
   exact Z5l i j m C e
theorem X1z{P:Program}{w:World}{n:String}{d:DataW Unit}{l:List (String×DataW Unit)}{g t:Nat}{ms:Array (String×TypeId)}(h:laidMetH P l w)(a:(l.all λx=>x.2.handleName?.isNone)=true)(b:(n,d)∈l)(e:P.globalNamed n=some g)(i:(P.globals[g]?).map (·.type)=some t)
 (j:P.underlying t=some (.interface ms)):∃ev,w.cell? ⟨g,0,none⟩=some ev/\(ev=.nilIface\/∃m o,ev=.iface m o):=by
 rw[MakeChecks.laidMetH_plain _ _ _ a]at h
 obtain⟨ps,p,_⟩:=h
 exact Z5l e i j p b
theorem Z5k{P:Program}{w:World}{n:String}{k:IntKind}{zs:List Int}{g t e:TypeId}{m:Nat}(d:P.globalNamed n=some g)(i:(P.globals[g]?).map (·.type)=some t)(j:P.underlying t=some (.array m e))(o:P.underlying e=some (.int k))(u:P.cellsOf e=1)(x:P.cellsOf t=m):
 ∀ {l:List (String×DataW Unit)} {ps:List MemPlace},DataW.LaidVars P w l ps->(n,Lib.tabData k zs)∈l->Lib.TabIs P w n k zs
 | [],_,_,a=>by cases a
 | (F,H)::r,ps,h,a=>by
   obtain⟨g',I,cs,J,p,q,y,z,A,C,D,_⟩:=h
   rcases G1j.1 a with b|b
   ·cases b
    obtain rfl:=G3p (d.symm.trans y)
    obtain rfl:=G3p (i.symm.trans z)
    unfold Lib.TabIs
    rw[A,<-Lib.cells_of_tab j o u x C]
   exact Z5k d i j o u x D b
theorem K4c{P:Program}{w:World}{n:String}{k:IntKind}{zs:List Int}{l:List (String×DataW Unit)}{g t e:TypeId}{m:Nat}(h:laidMetH P l w)(a:(l.all λx=>x.2.handleName?.isNone)=true)(b:(n,Lib.tabData k zs)∈l)(d:P.globalNamed n=some g)(i:(P.globals[g]?).map (·.type)=some t)
 (j:P.underlying t=some (.array m e)) (o:P.underlying e=some (.int k)) (p:P.cellsOf e=1) (q:P.cellsOf t=m):Lib.TabIs P w n k zs:=by
 rw[MakeChecks.laidMetH_plain _ _ _ a]at h
 obtain⟨ps,r,_⟩:=h
 exact Z5k d i j o p q r b
theorem J7k{P:Program}{w w':World}{n:String}{k:IntKind}{zs:List Int}{g:Nat}(a:P.globalNamed n=some g)(h:Lib.TabIs P w n k zs)(hb:w'.heap[g]?=w.heap[g]?):Lib.TabIs P w' n k zs:=by
 unfold Lib.TabIs World.var? at h |-
 rw[a]at h |-
 simp only[G0a]at h |-
 rw[hb]
 exact h
end Go.Abs
namespace Go.Abs
open Go.RowKit Go.Shelf Go.Proofs
section
variable {P:Program}{w:World}
theorem Z3j{ops:Array Oper}{rest:List Oper}{o:Oper}{a:Act}{Q:Exit->Act->World->Prop}(g:o.guard=none)(sl x:Operand)(t:TypeId)
 (j:o.op=.call { callee:=.builtin .append,args:=#[sl,x],argTypes:=#[t,t] }) (e:TypeId) (i:TypeInfo) (z:Value) (l:P.underlying t=some (.slice e)) (m:P.info? e=some i) (p:i.zero=some z) (q:z.cells.size=i.size)
 (b:i.size=1) (r:i.bytes=1) (v:Value) (n:Nat) (xs:List Value) (hs:a.eval sl=v) (A:w.ownsRow 0 e 1 v n xs) (u y:Value) (C:a.eval x=y) (D:Src w 1 1 y [u])
 (F:n+1<=maxLen) (L:n+1<=140737488355328)
 (h:∀v' w',w'.ownsRow 0 e 1 v' (n+1) (xs++[u])->Grew w w' v v'->wpList P ops Q rest (a.put o.dst v') w'):wpList P ops Q (o::rest) a w:=by
 refine wpList_plain g λK H=>?_
 obtain⟨v',w',I,d,J,_⟩:=Z4f (P:=P) (w:=w) t o.type e i z l m p q v n xs (by rw[b];exact A) y 1 [u] (by rw[b];exact D) F (by rw[r];omega)
 rw[b]at d
 unfold Oper.wp execOp
 simp only[j,resolve,invoke,builtin,Sem.run_bind,G5l,G1b,List.map_toArray,G2i,G3q,hs,C,I]
 exact H _ _ (h v' w' d J)
end
section
variable {P:Program}{ρ:Ren}
set_option maxHeartbeats 2000000 in
set_option maxRecDepth 100000 in
theorem J7h(L:Lays.n167 P ρ)(X:Builder.Extra P ρ){b:Nat}{p v:Value}{bs:List Value}{w:World}(c:Int)(h:Bld (ρ.t 72) (ρ.t 5) b p v bs w)(ag:bs.length+1<=140737488355328):
 Calls P (ρ.f 167) #[.pointer (some ⟨b,0,none⟩),.int .u8 c] w λe w'=>e=.returned .nilIface/\Wrote (ρ.t 72) (ρ.t 5) b v (bs++[.int .u8 c]) w w':=by
 obtain⟨M,N,S,z,T⟩:=info_parts X.infoByte
 have mixed:=L.mixed
 have ah:=L.t72;have ak:=L.a72;have al:=L.z72;have am:=L.v72;have aq:=G1c L.t72
 have ar:=L.t70;have au:=L.a70;have av:=L.z70;have aw:=L.v70;have ay:=G1c L.t70
 have t5:=L.t5;have a5:=L.a5;have z5:=L.z5;have v5:=L.v5;have u5:=G1c L.t5
 have aF:=L.t37;have aG:=L.a37;have aH:=L.z37;have aI:=L.v37;have aL:=G1c L.t37
 have t9:=L.t9;have a9:=L.a9;have z9:=L.z9;have v9:=L.v9;have u9:=G1c L.t9
 have t4:=L.t4;have a4:=L.a4;have z4:=L.z4;have v4:=L.v4;have u4:=G1c L.t4
 have aZ:=L.t164;have a0:=L.a164;have a1:=L.z164;have a2:=L.v164;have a3:=G1c L.t164
 have a6:∀args w,(callFunc (ρ.f 240) args).run P w=.ok (.enter (ρ.f 240) args) w:=enters_of L.f240 (by kernel_rfl) rfl
 go_enter L.f167,Body.n167_ntmps ρ
 go_wp2_with (go_at_fn (ρ.f 240);refine(Z8u { L with } X.toX72 h).mono ?_)
 rintro e w1 ⟨rfl,m,U,V,W,hs1,Y⟩
 have a7:w.heap.size<=w1.heap.size:=by omega
 have a8:w1.heap.size<=w.heap.size:=by omega
 clear hs1
 have t:=m.here
 have A:=m.owns
 have aa:=m.apart
 have ac:b<w1.heap.size:=m.lt
 have c0:w1.cell? ⟨b,0,none⟩=some (.pointer (some ⟨b,0,none⟩)):=by rw[G3s t];rfl
 have C:w1.cell? ⟨b,1,none⟩=some v:=by rw[G3s t];rfl
 have ad:∀k,v.ownBlock=some k->k<w1.heap.size:=λk hk=>by
  rcases A.2 with⟨a,_⟩|⟨g,cap,D,a,_,x,_⟩
  ·rw[a]at hk
   cases hk
  rw[a]at hk
  injection hk with hk
  subst hk
  exact(G1r.1 x).1
 go_wp2_with (at_builtin;refine Z3j rfl _ _ (ρ.t 37) rfl (ρ.t 5) M (.int .u8 0) L.t37 N S (by rw[z];rfl) z T v bs.length bs rfl ?C (.int .u8 c) (.slice (some ⟨w1.heap.size,0,none⟩) 1 1) rfl ?c2 ?c3 ?c4 ?_)
 case C=>exact Q1s A λk hk=>G8i w1 _ k (ad k hk)
 case c2=>
  refine⟨rfl,λu F=>by simp at F;subst F;rfl,.inr ⟨⟨w1.heap.size,0,none⟩,1,rfl,λj u n=>?_⟩⟩
  match j,n with
  | 0,n=>simp at n;subst n;simp[Addr.add]
 case c3=>unfold maxLen;omega
 case c4=>omega
 intro v' d q i
 have r:∀o,(w1.alloc o).heap.size=w1.heap.size+1:=λo=>by simp
 have l:d.heap[b]?=some (.cells #[.pointer (some ⟨b,0,none⟩),v] (ρ.t 72) (0,0)):=by
  rw[i.old (by rw[r];omega) aa,G8i w1 _ b ac]
  exact t
 have d0:d.cell? ⟨b,0,none⟩=some (.pointer (some ⟨b,0,none⟩)):=by rw[G3s l];rfl
 have d1:d.cell? ⟨b,1,none⟩=some v:=by rw[G3s l];rfl
 have f1:d.frozen? ⟨b,1,none⟩=false:=G7x l 1
 obtain⟨H,I,cap,rfl⟩:∃H I cap,v'=.slice H I cap:=by
  rcases q.2 with⟨a,_⟩|⟨g,cap,D,a,_⟩
  ·exact⟨_,_,_,a⟩
  exact⟨_,_,_,a⟩
 have J:=Lib.ownBlock_ne q l X.neB5
 have ae:=i.size
 rw[r]at ae
 go_wp2
 go_ret
 refine⟨rfl,i.os.trans U,i.tape.trans V,i.output.trans W,?_,λk hk K af=>?_,?_⟩
 ·show w.heap.size<=(d.setCell ⟨b,1,none⟩ _).heap.size
  rw[Q4l]
  omega
 ·show(d.setCell ⟨b,1,none⟩ _).heap[k]?=_
  rw[Q2r _ _ _ _ _ K,i.old (by rw[r];omega) af,G8i w1 _ k (by omega),Y k K]
 refine⟨_,J5c l,?_,J,λk hk=>⟨?_,?_⟩⟩
 ·have:(bs++[Value.int .u8 c]).length=bs.length+1:=by simp
  rw[this]
  exact Q1s q λk hk=>Q2r _ _ _ _ _ (λe=>J (by rw[hk,e]))
 ·rcases i.blk hk with y|y
  ·exact .inl y
  rw[r]at y
  exact .inr (by omega)
 show k<(d.setCell ⟨b,1,none⟩ _).heap.size
 rw[Q4l]
 rcases q.2 with⟨a,_⟩|⟨g,cap,D,a,_,x,_⟩
 ·rw[a]at hk
  cases hk
 rw[a]at hk
 injection hk with hk
 subst hk
 exact(G1r.1 x).1
end
section
variable {E:Env}{f:FuncId}
theorem Good.writeByte(J:∀ (b:Nat) (p v:Value) (bs:List Value) (w:World) (c:Int),Bld (E.bT.getD 0) E.be b p v bs w->bs.length+1<=140737488355328->
 Calls E.P f #[.pointer (some ⟨b,0,none⟩),.int .u8 c] w λe w'=>e=.returned .nilIface/\Wrote (E.bT.getD 0) E.be b v (bs++[.int .u8 c]) w w')
 (b:List UInt8) (c:UInt8) (h:b.length+1<=140737488355328):Good E f [.ref 0 0,.pv (.int .u8 c.toNat)] [.bld b] [.pv .nil] [.bld (b++[c])]:=by
 intro w Φ γ K q L y
 match K,L with
 | [c0,M],_=>
   obtain⟨g,blk,p,v,rfl,rfl,N,S,z,A,C⟩:=J9g q (y 0 c0 _ rfl rfl)
   have r:=Q2v (Q0p (y 1 M _ rfl rfl))
   subst r
   refine(J blk p v _ w c.toNat z (by rw[G6j];exact h)).mono λe w' ⟨T,d⟩=>?_
   obtain⟨v',U,V,W,D⟩:=d.now
   have m:∀k,k∈g.own↔k=blk\/v.ownBlock=some k:=λk=>by rw[S];simp
   have X:∀k,k<w.heap.size->k∉g.own->w'.heap[k]?=w.heap[k]?:=λk hk F=>d.old k hk (λe=>F ((m k).2 (.inl e))) (λe=>F ((m k).2 (.inr e)))
   have Y:∀k,k∈g.own->∀j,¬ Φ k j:=λk hk j=>by
    rcases(m k).1 hk with rfl|h
    ·exact A j
    exact C k h j
   have aa:=q.setObj (o':=.bld (b++[c])) (g':=⟨g.v,blk::v'.ownBlock.toList⟩) (l:=0) (g:=g) (o:=.bld b) rfl rfl X d.size d.os d.tape d.output (λ_ _ h=>h) (λ_ _ h _ _=>h) (λk j h=>G1m (q.phi k j h) d.size)
    (λk j h hk=>absurd h (Y k hk j)) (λk hk=>by
      simp only[G1j,Option.mem_toList]at hk
      rcases hk with rfl|hk
      ·exact⟨.inl ((m k).2 (.inl rfl)),G1m z.lt d.size⟩
      obtain⟨r,h2⟩:=D k hk
      exact⟨r.elim (λh=>.inl ((m k).2 (.inr h))) .inr,h2⟩) (.inl rfl) (λe sz n h=>by cases h)
    (λhE=>by
      refine⟨blk,.pointer (some ⟨blk,0,none⟩),v',N,rfl,.inr rfl,U,?_,W,A,λk hk j H=>?_⟩
      ·have I:(b++[c]).map (λu=>Value.int .u8 u.toNat)=Lib.byteCells b++[.int .u8 c.toNat]:=by
        rw[G7r]
        rfl
       have e2:(Lib.byteCells b++[Value.int .u8 c.toNat]).length=(b++[c]).length:=by rw[<-I,G1h]
       rw[I,<-e2]
       exact V
      rcases(D k hk).1 with h|h
      ·exact C k h j H
      have:=q.phi k j H
      omega)
   exact⟨[.nilIface],_,_,T,aa,rfl,λi u a t x=>by
    match i,t,x with
    | 0,t,x=>cases t;cases x;exact .pv .nil⟩
end
end Go.Abs
namespace Go.Abs
open Go.RowKit
abbrev ai(n:Int):AV:=.pv (.int .i64 n)
abbrev as_(s:List UInt8):AV:=.pv (.str s)
abbrev ab(b:Bool):AV:=.pv (.bool b)
def dstOf(ops:Array Oper)(j:Nat):Option Nat:=(ops[j]?).bind (·.dst)
def Q7g(ops:Array Oper)(a:List AV):List (Nat×AV):=(List.range ops.size).filterMap λj=>(dstOf ops j).map λd=>(d,a.getD j .any)
section
variable {E:Env}{O:Orc}{γ₀:List Gh}{H₀:List AObj}{Φ₀:Nat->Nat->Prop}{w₀:World}
theorem J6s{ops:Array Oper}{o:Oper}{t a:Nat->AV}{n:Nat}{X:List AObj}(h:∀d∈o.looksAt ops,t d=a d):Q2t E O ops ⟨t,n,X⟩ o=Q2t E O ops ⟨a,n,X⟩ o:=by
 have b:aop E O ⟨t,n,X⟩ o=aop E O ⟨a,n,X⟩ o:=J6r o (λx e=>by
  cases x with
  | tmp d=>exact h d (G5p _ (G4u.2 ⟨.tmp d,by simpa using e,rfl⟩))
  | _=>rfl)
 have i:gdec ops t o=gdec ops a o:=by
  unfold gdec
  cases l:o.guard with
  | none=>rfl
  | some p=>
    obtain⟨j,m⟩:=p
    simp only
    cases hd:(ops[j]?).bind (·.dst)with
    | none=>rfl
    | some g=>
      simp only
      rw[h g (by simp[Oper.looksAt,l,hd])]
 unfold Q2t
 simp only[b,i]
theorem J4z(L:List (Nat×AV)):∀ (P:List (Nat×AV)) (i:Nat),(∀v,(i,v)∉P)->sl (P++L) i=sl L i
 | [],i,_=>rfl
 | (j,v)::P,i,h=>by
   show(if i=j then v else sl (P++L) i)=_
   rw[if_neg (λe=>h v (by rw[e];simp)),J4z L P i λu a=>h u (G1l _ a)]
theorem K6w(L:List (Nat×AV)):∀ (P:List (Nat×AV)) (i:Nat) (v:AV),(i,v)∈P->(∀u,(i,u)∈P->u=v)->sl (P++L) i=v
 | [],i,v,h,_=>by cases h
 | (j,u)::P,i,v,h,b=>by
   show(if i=j then u else sl (P++L) i)=v
   by_cases a:i=j
   ·rw[if_pos a]
    exact b u (by rw[a];simp)
   rw[if_neg a]
   refine K6w L P i v ?_ λx d=>b x (G1l _ d)
   rcases G1j.1 h with h|h
   ·injection h with e g
    exact absurd e a
   exact h
theorem Z7a{ops:Array Oper}{j d:Nat}(h:dstOf ops j=some d):j<ops.size:=by
 unfold dstOf at h
 obtain⟨o,a,_⟩:=G1x.1 h
 exact(G1r.1 a).1
end
section
variable {E:Env}{σ:St}{k:Nat}
theorem Weak.cellPV(l j:Nat){cs:List AV}{a:AV}{p:PV}(q:σ.h[l]?=some (.var cs))(r:cs[j]?=some a)(A:toPV σ.h a=some p):Weak E k σ ⟨σ.t,σ.n,σ.h.set l (.var (cs.set j (.pv p)))⟩:=by
 intro γ₀ H₀ Φ₀ w₀ L w _ C
 obtain⟨⟨γ,Φ,e,hs⟩,D,hd,F⟩:=C
 obtain⟨g,t,H⟩:=e.inv.gh q
 obtain⟨b,T,vs,I,J,hb,K,u,x⟩:=H
 have hk:=e.inv.setObj (o':=.var (cs.set j (.pv p))) (g':=g) (w':=w) (Φ':=Φ) q t (λ_ _ _=>rfl) (G0r _) rfl rfl rfl (λ_ _ h=>h) (λ_ _ h _ _=>h) (λb k h=>e.inv.phi b k h) (λ_ _ _ _=>rfl)
  (λb hb=>⟨.inl hb,(e.inv.own l g t b hb).2⟩) (.inl rfl) (λM N S h=>by cases h)
  (λm=>⟨b,T,vs,I,J,hb,by simpa using K,λi v c y d=>by
    by_cases z:i=j
    ·subst z
     rw[G1u (G0j.1 r).1]at d
     injection d with d
     subst d
     obtain⟨n,o⟩:=u i v _ y r
     exact⟨n,.pv ((Q2b e.inv o A).mono m.phi m.cell)⟩
    ·rw[G2b (Ne.symm z)]at d
     obtain⟨n,o⟩:=u i v c y d
     exact⟨n,o.mono m⟩,x.1,λc d hs=>by
    rcases G4s d with d|rfl
    ·exact x.2 c d hs
    cases hs⟩)
 exact⟨⟨_,_,e.trans hk,λi=>(hs i).mono hk.evo⟩,D,hd,F⟩
end
def mkO(b:Nat)(n:Int):Option Unit:=if 0<=n/\n.toNat * b<=140737488355328 then some ()else none
theorem Y5j{b:Nat}{n:Int}{u:Unit}(h:mkO b n=some u):(0<=n)=True/\(n.toNat * b<=140737488355328)=True:=by
 unfold mkO at h
 split at h
 ·rename_i a
  exact⟨eq_true a.1,eq_true a.2⟩
 cases h
end Go.Abs
