import Derived.Test.YtkfcehagblhjaaaGreatDoorA39
import Derived.Test.YtkfcehagblhjaaaGreatDoorA21
import Derived.Test.YtkfcehagblhjaaaGreatDoorA28
import Derived.Lib.LaidTab
set_option linter.unusedVariables false
set_option linter.unusedSimpArgs false
set_option linter.defProp false
namespace Go.Abs
def RUN0:=And.intro @int_beq (And.intro @int_bne (And.intro @str_beq (And.intro @str_bne (And.intro @arun_nil (And.intro @arun_cons (And.intro @astep.eq_1 (And.intro @aop.eq_1 (And.intro @qval.eq_1 (And.intro @qval.eq_2 (And.intro @qval.eq_3 (And.intro @qval.eq_4 (And.intro @qval.eq_5 (And.intro @qval.eq_6 (And.intro @qval.eq_7 (And.intro @qval.eq_8 (And.intro @qval.eq_9 (And.intro @qval.eq_10 (And.intro @qval.eq_11 (@qval.eq_12)))))))))))))))))))
def RUN1:=And.intro @qval.eq_13 (And.intro @qval.eq_14 (And.intro @qval.eq_15 (And.intro @qval.eq_16 (And.intro @qval.eq_17 (And.intro @upd_sl (And.intro @sl_cons (And.intro @sl_nil (And.intro @ev.eq_1 (And.intro @ev.eq_2 (And.intro @ev.eq_3 (And.intro @put.eq_1 (And.intro @put.eq_2 (And.intro @bind_some (And.intro @leaves_some (And.intro @keeps_cons (And.intro @keeps_nil (And.intro @enum.eq_1 (And.intro @enum.eq_2 (@Option.map_some.{0,0})))))))))))))))))))
def RUN2:=And.intro @Option.bind_some.{0,0} (And.intro @constAV.eq_1 (And.intro @constAV.eq_2 (And.intro @constAV.eq_3 (And.intro @constAV.eq_4 (And.intro @constAV.eq_5 (And.intro @constAV.eq_6 (And.intro @pbin.eq_1 (And.intro @pbin.eq_2 (And.intro @pbin.eq_3 (And.intro @pbin.eq_4 (And.intro @pbin.eq_5 (And.intro @pbin.eq_6 (And.intro @pbin.eq_7 (And.intro @pbin.eq_8 (And.intro @pbin.eq_9 (And.intro @pbin.eq_10 (And.intro @pbin.eq_11 (And.intro @pbin.eq_12 (@pbin.eq_13)))))))))))))))))))
def RUN3:=And.intro @pbin.eq_14 (And.intro @pbin.eq_15 (And.intro @pbin.eq_16 (And.intro @pbin.eq_17 (And.intro @pbin.eq_18 (And.intro @pbin.eq_19 (And.intro @pbin.eq_20 (And.intro @pbin.eq_21 (And.intro @pbin.eq_22 (And.intro @pbin.eq_23 (And.intro @pbin.eq_24 (And.intro @pbin.eq_25 (And.intro @pbin.eq_26 (And.intro @qbin.eq_1 (And.intro @qbin.eq_2 (And.intro @qbin.eq_3 (And.intro @qbin.eq_4 (And.intro @qbin.eq_5 (And.intro @qun.eq_1 (@qun.eq_2)))))))))))))))))))
def RUN4:=And.intro @qun.eq_3 (And.intro @qun.eq_4 (And.intro @qun.eq_5 (And.intro @nrm.eq_1 (And.intro @nrm.eq_2 (And.intro @nrm.eq_3 (And.intro @qlen.eq_1 (And.intro @qlen.eq_2 (And.intro @qlen.eq_3 (And.intro @qlen.eq_4 (And.intro @qlen.eq_5 (And.intro @qlen.eq_6 (And.intro @qindex.eq_1 (And.intro @qindex.eq_2 (And.intro @qextract.eq_1 (And.intro @qextract.eq_2 (And.intro @qindexAddr.eq_1 (And.intro @qload.eq_1 (And.intro @rdCells.eq_1 (And.intro @qfieldAddr.eq_1 (@qslice.eq_1))))))))))))))))))))
def RUN5:=And.intro @qslice.eq_2 (And.intro @boundOr.eq_1 (And.intro @boundOr.eq_2 (And.intro @boundOr.eq_3 (And.intro @toPV.eq_1 (And.intro @toPV.eq_2 (And.intro @toPV.eq_3 (And.intro @toPV.eq_4 (And.intro @toPV.eq_5 (And.intro @ealloc.eq_1 (And.intro @ebox.eq_1 (And.intro @ebox.eq_2 (And.intro @ebox.eq_3 (And.intro @ebox.eq_4 (And.intro @ebox.eq_5 (And.intro @ebox.eq_6 (And.intro @ebox.eq_7 (And.intro @estore.eq_1 (And.intro @zAV.eq_1 (@zAV.eq_2)))))))))))))))))))
def RUN6:=And.intro @one1.eq_1 (And.intro @one1.eq_2 (And.intro @one1.eq_3 (And.intro @one1.eq_4 (And.intro @one1.eq_5 (And.intro @one1.eq_6 (And.intro @one1.eq_7 (And.intro @allPV.eq_1 (And.intro @allPV.eq_2 (And.intro @allPV.eq_3 (And.intro @PV.one.eq_1 (And.intro @PV.one.eq_2 (And.intro @emakeMap.eq_1 (And.intro @List.set_cons_zero.{0} (And.intro @List.set_cons_succ.{0} (And.intro @List.map_cons.{0,0} (And.intro @List.map_nil.{0,0} (And.intro @List.cons_append.{0} (And.intro @List.nil_append.{0} (@List.append_nil.{0})))))))))))))))))))
def RUN7:=And.intro @Option.some.injEq.{0} (And.intro @Nat.add_zero (And.intro @Nat.zero_le (And.intro @decide_true (And.intro @decide_false (And.intro @List.length_map.{0,0} (And.intro @List.drop_zero.{0} (And.intro @List.drop_succ_cons.{0} (And.intro @List.drop_nil.{0} (And.intro @List.length_cons.{0} (And.intro @List.length_nil.{0} (And.intro @Nat.zero_add (And.intro @List.take_succ_cons.{0} (And.intro @List.take_zero.{0} (And.intro @List.take_nil.{0} (And.intro @Nat.le_refl (And.intro @List.getElem?_toArray.{0} (And.intro @List.getElem?_cons_zero.{0} (And.intro @List.getElem?_cons_succ.{0} (@decide_eq_true_eq)))))))))))))))))))
def RUN8:=And.intro @and_true (And.intro @true_and (And.intro @and_self (And.intro @Bool.not_true (And.intro @Bool.not_false (And.intro @List.size_toArray.{0} (And.intro @Int.toNat_natCast (And.intro @Int.natCast_nonneg (And.intro @Bool.true_eq_false (And.intro @Bool.false_eq_true (And.intro @ge_iff_le.{0} (And.intro @gt_iff_lt.{0} (And.intro @List.getElem?_map.{0,0} (And.intro @cells_agg (And.intro @cells_str (And.intro @cells_int (And.intro @cells_bool (And.intro @cells_slice (And.intro @qbuild.eq_1 (@qfill.eq_1)))))))))))))))))))
def RUN9:=And.intro @qfill.eq_2 (And.intro @putCells.eq_1 (And.intro @ebuildSlice.eq_1 (And.intro @eparts.eq_1 (And.intro @eparts.eq_2 (And.intro @toPVw.eq_1 (And.intro @toPVw.eq_2 (And.intro @toPVw.eq_3 (And.intro @toPVw.eq_4 (And.intro @toPVw.eq_5 (And.intro @argsPV.eq_1 (And.intro @argsPV.eq_2 (And.intro @eappend.eq_1 (And.intro @Option.isSome_some.{0} (And.intro @not_false_eq_true (And.intro @List.all_cons.{0} (And.intro @List.all_nil.{0} (And.intro @beq_self_eq_true.{0} (And.intro @Bool.and_true (And.intro @Nat.succ_ne_self (And.intro @Nat.one_ne_zero (And.intro @Nat.add_one_ne_zero (And.intro @retAV.eq_1 (And.intro @retAV.eq_2 (And.intro @qcall.eq_1 (And.intro @argsPV.eq_1 (@argsPV.eq_2))))))))))))))))))))))))))
def RUN10:=And.intro @List.length_append.{0} (And.intro @List.map_append.{0,0} (And.intro @mp_nil (And.intro @List.isEmpty_cons.{0} (And.intro @Bool.true_and (And.intro @Bool.false_and (And.intro @Bool.and_false (And.intro @Bool.true_or (And.intro @Bool.false_or (And.intro @Bool.or_true (@Bool.or_false))))))))))
def RUN11:=And.intro @qeq.eq_1 (And.intro @qeq.eq_2 (And.intro @pvEq.eq_1 (And.intro @pvEq.eq_2 (And.intro @pvEq.eq_3 (And.intro @cellsEq.eq_1 (And.intro @cellsEq.eq_2 @Option.map_none.{0,0}))))))
def RUN12:=And.intro @isNil_tmp (And.intro @isNil_func (And.intro @isNil_int (And.intro @isNil_bool (And.intro @isNil_str (And.intro @isNil_slice (And.intro isNil_nil (And.intro @qmm.eq_1 (And.intro @mmL.eq_1 (And.intro @mmL.eq_2 (And.intro @mm2_f (And.intro @mm2_t (And.intro @qbuildA2_none (And.intro @qbuildA.eq_1 (And.intro @qfillA.eq_1 (And.intro @qfillA.eq_2 (And.intro @cellsAV.eq_1 (And.intro @cellsAV.eq_2 (And.intro @cellsAV.eq_3 (And.intro @cellsAV.eq_4 (And.intro @cellsAV.eq_5 (And.intro @cellsAV.eq_6 (And.intro @ebox_agg (And.intro @ebuildOwn.eq_1 (And.intro @qnil_ref (And.intro @qnil_pptr (And.intro @qnil_vptr (And.intro @List.length_set.{0} (And.intro @List.map_set.{0,0} @List.append_eq.{0}))))))))))))))))))))))))))))
def RUN13:=And.intro @noS.eq_1 (And.intro @noS.eq_2 (And.intro @AV.isS.eq_3 (And.intro @AV.isS.eq_4 (And.intro @AV.isS.eq_6 (And.intro @AV.isS.eq_8 (And.intro @AV.isS.eq_9 (And.intro @AV.isS.eq_10 (And.intro @qconv2_pv (And.intro @rowAt.eq_1 (And.intro @rowLike.eq_1 (And.intro @rowLike.eq_2 (And.intro @rowLike.eq_3 (And.intro @allPV.eq_3 (And.intro @refsOf.eq_1 (And.intro @refsOf.eq_2 @Option.map_some.{0,0})))))))))))))))
def RUNS:=And.intro RUN13 (And.intro RUN0 (And.intro RUN1 (And.intro RUN2 (And.intro RUN3 (And.intro RUN4 (And.intro RUN5 (And.intro RUN6 (And.intro RUN7 (And.intro RUN8 (And.intro RUN9 (And.intro RUN11 (And.intro RUN12 (@RUN10)))))))))))))
def BOOLS:=And.intro Bool.true_and (And.intro Bool.false_and (And.intro Bool.true_or (And.intro Bool.false_or (And.intro Bool.and_true (And.intro Bool.and_false (And.intro Bool.or_true Bool.or_false))))))
def HBS:=And.intro @Bool.not_eq_false (And.intro @Bool.not_eq_true (And.intro @Bool.not_eq_true' (And.intro @Bool.not_eq_false' (And.intro @decide_eq_false_iff_not (And.intro @decide_eq_true_eq @Decidable.not_not)))))
def CLOS:=And.intro pvb_eq (And.intro pvi_eq (And.intro BOOLS (And.intro @Bool.or_eq_true (And.intro @Bool.and_eq_true (And.intro @Bool.not_eq_true' (And.intro @Bool.or_eq_false_iff (And.intro @Bool.and_eq_false_imp (And.intro @decide_eq_true_eq (And.intro @decide_eq_false_iff_not (And.intro @true_and (And.intro Bool.true_eq_false (And.intro Bool.false_eq_true (And.intro @false_iff (And.intro @true_iff (And.intro @iff_true @iff_false)))))))))))))))
end Go.Abs
namespace Go.Abs
open Go.RowKit
def ekB:EK→TypeDesc→Bool
 | .bool,.bool=>true
 | .str,.string=>true
 | .int,.int _=>true
 | _,_=>false
theorem ekB_fits{k:EK}{d:TypeDesc}(h:ekB k d=true):k.fits d:=by
 cases k<;>cases d<;>simp_all [ekB,EK.fits]
def eqFieldsN(P:Program):Nat→Nat→List Field→List EK→Bool
 | _,_,[],[]=>true
 | n+1,i,f::fs,ks=>f.name != "_"&&f.offset==i&&(match P.underlying f.type with
   | some (.struct sub)=>(match P.info? f.type with
     | some inf=>!P.stoodInHeld f.type&&decide (inf.size≤ks.length)&&eqFieldsN P n 0 sub.toList (ks.take inf.size)&&eqFieldsN P n (i+inf.size) fs (ks.drop inf.size)
     | none=>false)
   | some d=>(match ks with
     | k::ks=>ekB k d&&eqFieldsN P n (i+1) fs ks
     | []=>false)
   | none=>false)
 | _,_,_,_=>false
theorem eqFieldsN_sound{P:Program}:∀ {n i:Nat} {fs:List Field} {ks:List EK},eqFieldsN P n i fs ks=true→FitsF P n fs i ks
 | n,i,[],[],_=>.nil n i
 | 0,i,[],k::ks,h=>by simp[eqFieldsN]at h
 | n+1,i,[],k::ks,h=>by simp[eqFieldsN]at h
 | 0,i,f::fs,ks,h=>by simp[eqFieldsN]at h
 | n+1,i,f::fs,ks,h=>by
   simp only[eqFieldsN,Bool.and_eq_true,bne_iff_ne,beq_iff_eq]at h
   obtain⟨⟨h1,h2⟩,h3⟩:=h
   split at h3
   ·rename_i sub hd
    split at h3
    ·rename_i inf hi
     simp only[Bool.and_eq_true,Bool.not_eq_true',decide_eq_true_eq]at h3
     obtain⟨⟨⟨g1,g2⟩,g3⟩,g4⟩:=h3
     have hl:(ks.take inf.size).length=inf.size:=by rw[List.length_take];omega
     have:=FitsF.sub (P:=P) h1 h2 hd g1 hi hl.symm (eqFieldsN_sound g3) (by rw[hl];exact eqFieldsN_sound g4)
     rwa [List.take_append_drop]at this
    cases h3
   ·rename_i d hns hd
    split at h3
    ·rename_i k ks
     simp only[Bool.and_eq_true]at h3
     exact .one h1 h2 hd (ekB_fits h3.1) (eqFieldsN_sound h3.2)
    cases h3
   cases h3
def eqcheck(P:Program)(t:TypeId)(ks:List EK):Bool:=
 match P.underlying t with
 | some (.struct fields)=>!P.stoodInHeld t&&!P.eqGuardType P.depth t&&eqFieldsN P 100 0 fields.toList ks
 | some (.array n e)=>match P.underlying e,P.info? e,ks with
   | some d,some ei,k::_=>ekB k d&&ei.size==1&&decide (ks=List.replicate n k)&&!P.eqGuardType P.depth t
   | _,_,_=>false
 | _=>false
theorem eqcheck_sound{P:Program}{t:TypeId}{ks:List EK}(h:eqcheck P t ks=true):EqOne P t ks:=by
 unfold eqcheck at h
 split at h
 ·rename_i fields hu
  simp only[Bool.and_eq_true,Bool.not_eq_true']at h
  obtain⟨⟨h1,h2⟩,h3⟩:=h
  exact⟨.inr ⟨fields,hu,h1,h2,100,by omega,eqFieldsN_sound h3⟩⟩
 ·rename_i n e hu
  split at h
  ·rename_i d ei k ks hd hei
   simp only[Bool.and_eq_true,Bool.not_eq_true',decide_eq_true_eq,beq_iff_eq]at h
   obtain⟨⟨⟨h1,h2⟩,h3⟩,h4⟩:=h
   exact⟨.inl ⟨n,e,k,d,hu,hd,ekB_fits h1,h3,h4,ei,hei,h2⟩⟩
  cases h
 cases h
def eqtabT(tab:List (TypeId×List EK))(t:TypeId):Option (List EK):=(tab.find? fun p=>p.1==t).map (·.2)
theorem eqtabT_sound{P:Program}{tab:List (TypeId×List EK)}(h:tab.all (fun p=>eqcheck P p.1 p.2)=true){t:TypeId}{ks:List EK}(ht:eqtabT tab t=some ks):EqOne P t ks:=by
 unfold eqtabT at ht
 obtain⟨p,hp,he⟩:=Option.map_eq_some_iff.1 ht
 have h1:=List.all_eq_true.1 h p (List.mem_of_find?_eq_some hp)
 have h2:=List.find?_some hp
 simp only[beq_iff_eq]at h2
 subst h2 he
 exact eqcheck_sound h1
def archeck(P:Program)(p:TypeId×List (Nat×Nat)×List PV):Bool:=
 match P.info? p.1,P.underlying p.1 with
 | some i,some (.array n e)=>match P.info? e,i.zero with
   | some ei,some z=>decide (p.2.1=(List.range n).map fun i=>(i * ei.size,ei.size))&&zlistB z.cells.toList p.2.2
   | _,_=>false
 | _,_=>false
def artabT(tab:List (TypeId×List (Nat×Nat)×List PV))(t:TypeId):Option (List (Nat×Nat)×List PV):=(tab.find? fun p=>p.1==t).map (·.2)
theorem artabT_sound{P:Program}{tab:List (TypeId×List (Nat×Nat)×List PV)}(h:tab.all (archeck P)=true){t:TypeId}{ls:List (Nat×Nat)}{zs:List PV}(ht:artabT tab t=some (ls,zs)):ArOne P t ls zs:=by
 unfold artabT at ht
 obtain⟨p,hp,he⟩:=Option.map_eq_some_iff.1 ht
 have h1:=List.all_eq_true.1 h p (List.mem_of_find?_eq_some hp)
 have h2:=List.find?_some hp
 simp only[beq_iff_eq]at h2
 obtain⟨p1,p2,p3⟩:=p
 simp only at h2 he
 subst h2
 injection he with e1 e2
 subst e1 e2
 unfold archeck at h1
 split at h1
 ·rename_i i n e hi hd
  split at h1
  ·rename_i ei z hei hz
   simp only[Bool.and_eq_true,decide_eq_true_eq]at h1
   obtain⟨h3,h4⟩:=zlistB_sound h1.2
   exact⟨i,n,e,ei,z,h1.1,hi,hd,hei,hz,h3,h4⟩
  cases h1
 cases h1
end Go.Abs
namespace Go.Abs
theorem ifc_of_trod{H:Type}{enc:TypeId×Value→H}{P:Program}{w:World}{base:Nat}{sp:Nat→Bool}{held:Bool}{fuel:Nat}{t:TypeId}{ms:Array (String×TypeId)}{cs:List Value}{x:DataW H×List MemPlace}(ht:P.underlying t=some (.interface ms))
 (h:DataW.trod enc P w base sp held fuel t cs=some x):∃ev,cs=[ev]∧(ev=.nilIface∨∃te pe,ev=.iface te pe):=by
 cases fuel with
 | zero=>simp[DataW.trod]at h
 | succ n=>
   unfold DataW.trod at h
   rw[ht]at h
   split at h<;>simp_all
theorem laidVars_ifc{P:Program}{w:World}{n:String}{d:DataW Unit}{g t:Nat}{ms:Array (String×TypeId)}(hg:P.globalNamed n=some g)(hty:(P.globals[g]?).map (·.type)=some t)(ht:P.underlying t=some (.interface ms)):
 ∀ {l:List (String×DataW Unit)} {ps:List MemPlace},DataW.LaidVars P w l ps→(n,d)∈l→∃ev,w.cell? ⟨g,0,none⟩=some ev∧(ev=.nilIface∨∃te pe,ev=.iface te pe)
 | [],_,_,hm=>by cases hm
 | (n',d')::r,ps,h,hm=>by
   obtain⟨g',t',cs,fuel,p,q,h1,h2,h3,h4,h5,_⟩:=h
   rcases List.mem_cons.1 hm with e|e
   ·cases e
    obtain rfl:=Option.some.inj (hg.symm.trans h1)
    obtain rfl:=Option.some.inj (hty.symm.trans h2)
    obtain⟨ev,hev,hk⟩:=ifc_of_trod ht h4
    refine⟨ev,?_,hk⟩
    unfold World.var? at h3
    rw[h1]at h3
    simp only[Option.bind_some]at h3
    split at h3
    ·rename_i cs' T z hh
     simp only[Option.some.injEq]at h3
     subst h3
     have:cs'=#[ev]:=by
      apply Array.ext'
      simpa using hev
     simp[World.cell?,hh,this]
    cases h3
   exact laidVars_ifc hg hty ht h5 e
theorem laid_ifc{P:Program}{w:World}{n:String}{d:DataW Unit}{l:List (String×DataW Unit)}{g t:Nat}{ms:Array (String×TypeId)}(h:laidMetH P l w)(hl:(l.all fun x=>x.2.handleName?.isNone)=true)(hm:(n,d)∈l)(hg:P.globalNamed n=some g)(hty:(P.globals[g]?).map (·.type)=some t)
 (ht:P.underlying t=some (.interface ms)):∃ev,w.cell? ⟨g,0,none⟩=some ev∧(ev=.nilIface∨∃te pe,ev=.iface te pe):=by
 rw[MakeChecks.laidMetH_plain _ _ _ hl]at h
 obtain⟨ps,hv,_⟩:=h
 exact laidVars_ifc hg hty ht hv hm
theorem laidVars_tab{P:Program}{w:World}{n:String}{k:IntKind}{zs:List Int}{g t e:TypeId}{m:Nat}(hg:P.globalNamed n=some g)(hty:(P.globals[g]?).map (·.type)=some t)(ht:P.underlying t=some (.array m e))(he:P.underlying e=some (.int k))(hce:P.cellsOf e=1)(hct:P.cellsOf t=m):
 ∀ {l:List (String×DataW Unit)} {ps:List MemPlace},DataW.LaidVars P w l ps→(n,Lib.tabData k zs)∈l→Lib.TabIs P w n k zs
 | [],_,_,hm=>by cases hm
 | (n',d')::r,ps,h,hm=>by
   obtain⟨g',t',cs,fuel,p,q,h1,h2,h3,h4,h5,_⟩:=h
   rcases List.mem_cons.1 hm with e'|e'
   ·cases e'
    obtain rfl:=Option.some.inj (hg.symm.trans h1)
    obtain rfl:=Option.some.inj (hty.symm.trans h2)
    unfold Lib.TabIs
    rw[h3,←Lib.cells_of_tab ht he hce hct h4]
   exact laidVars_tab hg hty ht he hce hct h5 e'
theorem laid_tab{P:Program}{w:World}{n:String}{k:IntKind}{zs:List Int}{l:List (String×DataW Unit)}{g t e:TypeId}{m:Nat}(h:laidMetH P l w)(hl:(l.all fun x=>x.2.handleName?.isNone)=true)(hm:(n,Lib.tabData k zs)∈l)(hg:P.globalNamed n=some g)(hty:(P.globals[g]?).map (·.type)=some t)
 (ht:P.underlying t=some (.array m e)) (he:P.underlying e=some (.int k)) (hce:P.cellsOf e=1) (hct:P.cellsOf t=m):Lib.TabIs P w n k zs:=by
 rw[MakeChecks.laidMetH_plain _ _ _ hl]at h
 obtain⟨ps,hv,_⟩:=h
 exact laidVars_tab hg hty ht he hce hct hv hm
theorem tabIs_below{P:Program}{w w':World}{n:String}{k:IntKind}{zs:List Int}{g:Nat}(hg:P.globalNamed n=some g)(h:Lib.TabIs P w n k zs)(hb:w'.heap[g]?=w.heap[g]?):Lib.TabIs P w' n k zs:=by
 unfold Lib.TabIs World.var? at h ⊢
 rw[hg]at h ⊢
 simp only[Option.bind_some]at h ⊢
 rw[hb]
 exact h
end Go.Abs
namespace Go.Abs
open Go.RowKit Go.Shelf Go.Proofs
section
variable {P:Program}{w:World}
theorem wpList_append_one{ops:Array Oper}{rest:List Oper}{o:Oper}{a:Act}{Q:Exit→Act→World→Prop}(hgd:o.guard=none)(sl x:Operand)(t:TypeId)
 (ho:o.op=.call { callee:=.builtin .append,args:=#[sl,x],argTypes:=#[t,t] }) (e:TypeId) (i:TypeInfo) (z:Value) (ht:P.underlying t=some (.slice e)) (hi:P.info? e=some i) (hz:i.zero=some z) (hzs:z.cells.size=i.size)
 (hsize:i.size=1) (hby:i.bytes=1) (v:Value) (n:Nat) (xs:List Value) (hs:a.eval sl=v) (hown:w.ownsRow 0 e 1 v n xs) (u y:Value) (hx:a.eval x=y) (hsrc:Src w 1 1 y [u])
 (h63:n+1≤maxLen) (hbytes:n+1≤140737488355328)
 (h:∀v' w',w'.ownsRow 0 e 1 v' (n+1) (xs++[u])→Grew w w' v v'→wpList P ops Q rest (a.put o.dst v') w'):wpList P ops Q (o::rest) a w:=by
 refine wpList_plain hgd fun K hK=>?_
 obtain⟨v',w',hr,h2,h3,_⟩:=append_own (P:=P) (w:=w) t o.type e i z ht hi hz hzs v n xs (by rw[hsize];exact hown) y 1 [u] (by rw[hsize];exact hsrc) h63 (by rw[hby];omega)
 rw[hsize]at h2
 unfold Oper.wp execOp
 simp only[ho,resolve,invoke,builtin,Sem.run_bind,Sem.run_pure,Result.andThen_ok,List.map_toArray,List.map_cons,List.map_nil,hs,hx,hr]
 exact hK _ _ (h v' w' h2 h3)
end
section
variable {P:Program}{ρ:Ren}
set_option maxHeartbeats 2000000 in
set_option maxRecDepth 100000 in
theorem writeByte_x(L:Lays.n167 P ρ)(X:Builder.Extra P ρ){b:Nat}{p v:Value}{bs:List Value}{w:World}(c:Int)(h:Bld (ρ.t 72) (ρ.t 5) b p v bs w)(hlen:bs.length+1≤140737488355328):
 Calls P (ρ.f 167) #[.pointer (some ⟨b,0,none⟩),.int .u8 c] w fun e w'=>e=.returned .nilIface∧Wrote (ρ.t 72) (ρ.t 5) b v (bs++[.int .u8 c]) w w':=by
 obtain⟨i0,hi,hz0,hz1,hz2⟩:=info_parts X.infoByte
 have mixed:=L.mixed
 have t72:=L.t72;have a72:=L.a72;have z72:=L.z72;have v72:=L.v72;have u72:=run_underlying L.t72
 have t70:=L.t70;have a70:=L.a70;have z70:=L.z70;have v70:=L.v70;have u70:=run_underlying L.t70
 have t5:=L.t5;have a5:=L.a5;have z5:=L.z5;have v5:=L.v5;have u5:=run_underlying L.t5
 have t37:=L.t37;have a37:=L.a37;have z37:=L.z37;have v37:=L.v37;have u37:=run_underlying L.t37
 have t9:=L.t9;have a9:=L.a9;have z9:=L.z9;have v9:=L.v9;have u9:=run_underlying L.t9
 have t4:=L.t4;have a4:=L.a4;have z4:=L.z4;have v4:=L.v4;have u4:=run_underlying L.t4
 have t164:=L.t164;have a164:=L.a164;have z164:=L.z164;have v164:=L.v164;have u164:=run_underlying L.t164
 have e240:∀args w,(callFunc (ρ.f 240) args).run P w=.ok (.enter (ρ.f 240) args) w:=enters_of L.f240 (by kernel_rfl) rfl
 go_enter L.f167,Body.n167_ntmps ρ
 go_wp2_with (go_at_fn (ρ.f 240);refine(copyCheck_x { L with } X.toX72 h).mono ?_)
 rintro e w1 ⟨rfl,h1,ho1,ht1,hu1,hs1,hk1⟩
 have hle:w.heap.size≤w1.heap.size:=by omega
 have hge:w1.heap.size≤w.heap.size:=by omega
 clear hs1
 have hbk:=h1.here
 have hown:=h1.owns
 have hne:=h1.apart
 have hlt:b<w1.heap.size:=h1.lt
 have c0:w1.cell? ⟨b,0,none⟩=some (.pointer (some ⟨b,0,none⟩)):=by rw[Lib.cell_of_heap hbk];rfl
 have c1:w1.cell? ⟨b,1,none⟩=some v:=by rw[Lib.cell_of_heap hbk];rfl
 have hob:∀k,v.ownBlock=some k→k<w1.heap.size:=fun k hk=>by
  rcases hown.2 with⟨hv,_⟩|⟨g,cap,cur,hv,_,hg,_⟩
  ·rw[hv]at hk
   cases hk
  rw[hv]at hk
  injection hk with hk
  subst hk
  exact(Array.getElem?_eq_some_iff.1 hg).1
 go_wp2_with (at_builtin;refine wpList_append_one rfl _ _ (ρ.t 37) rfl (ρ.t 5) i0 (.int .u8 0) L.t37 hi hz0 (by rw[hz1];rfl) hz1 hz2 v bs.length bs rfl ?c1 (.int .u8 c) (.slice (some ⟨w1.heap.size,0,none⟩) 1 1) rfl ?c2 ?c3 ?c4 ?_)
 case c1=>exact ownsRow_of_heap hown fun k hk=>Lib.alloc_old w1 _ k (hob k hk)
 case c2=>
  refine⟨rfl,fun u hu=>by simp at hu;subst hu;rfl,.inr ⟨⟨w1.heap.size,0,none⟩,1,rfl,fun j u hj=>?_⟩⟩
  match j,hj with
  | 0,hj=>simp at hj;subst hj;simp[Addr.add]
 case c3=>unfold maxLen;omega
 case c4=>omega
 intro v' w2 hown' hgrow
 have hsz1:∀o,(w1.alloc o).heap.size=w1.heap.size+1:=fun o=>by simp
 have hb2:w2.heap[b]?=some (.cells #[.pointer (some ⟨b,0,none⟩),v] (ρ.t 72) (0,0)):=by
  rw[hgrow.old (by rw[hsz1];omega) hne,Lib.alloc_old w1 _ b hlt]
  exact hbk
 have d0:w2.cell? ⟨b,0,none⟩=some (.pointer (some ⟨b,0,none⟩)):=by rw[Lib.cell_of_heap hb2];rfl
 have d1:w2.cell? ⟨b,1,none⟩=some v:=by rw[Lib.cell_of_heap hb2];rfl
 have f1:w2.frozen? ⟨b,1,none⟩=false:=Lib.frozen_of_heap hb2 1
 obtain⟨ao,n',cap,rfl⟩:∃ao n' cap,v'=.slice ao n' cap:=by
  rcases hown'.2 with⟨hv,_⟩|⟨g,cap,cur,hv,_⟩
  ·exact⟨_,_,_,hv⟩
  exact⟨_,_,_,hv⟩
 have hne':=Lib.ownBlock_ne hown' hb2 X.neB5
 have hsz:=hgrow.size
 rw[hsz1]at hsz
 go_wp2
 go_ret
 refine⟨rfl,hgrow.os.trans ho1,hgrow.tape.trans ht1,hgrow.output.trans hu1,?_,fun k hk hkb hkv=>?_,?_⟩
 ·show w.heap.size≤(w2.setCell ⟨b,1,none⟩ _).heap.size
  rw[setCell_size]
  omega
 ·show(w2.setCell ⟨b,1,none⟩ _).heap[k]?=_
  rw[setCell_other _ _ _ _ _ hkb,hgrow.old (by rw[hsz1];omega) hkv,Lib.alloc_old w1 _ k (by omega),hk1 k hkb]
 refine⟨_,setCell_1 hb2,?_,hne',fun k hk=>⟨?_,?_⟩⟩
 ·have:(bs++[Value.int .u8 c]).length=bs.length+1:=by simp
  rw[this]
  exact ownsRow_of_heap hown' fun k hk=>setCell_other _ _ _ _ _ (fun e=>hne' (by rw[hk,e]))
 ·rcases hgrow.blk hk with h2|h2
  ·exact .inl h2
  rw[hsz1]at h2
  exact .inr (by omega)
 show k<(w2.setCell ⟨b,1,none⟩ _).heap.size
 rw[setCell_size]
 rcases hown'.2 with⟨hv,_⟩|⟨g,cap,cur,hv,_,hg,_⟩
 ·rw[hv]at hk
  cases hk
 rw[hv]at hk
 injection hk with hk
 subst hk
 exact(Array.getElem?_eq_some_iff.1 hg).1
end
section
variable {E:Env}{f:FuncId}
theorem Good.writeByte(hc:∀ (b:Nat) (p v:Value) (bs:List Value) (w:World) (c:Int),Bld (E.bT.getD 0) E.be b p v bs w→bs.length+1≤140737488355328→
 Calls E.P f #[.pointer (some ⟨b,0,none⟩),.int .u8 c] w fun e w'=>e=.returned .nilIface∧Wrote (E.bT.getD 0) E.be b v (bs++[.int .u8 c]) w w')
 (b:List UInt8) (c:UInt8) (h:b.length+1≤140737488355328):Good E f [.ref 0 0,.pv (.int .u8 c.toNat)] [.bld b] [.pv .nil] [.bld (b++[c])]:=by
 intro w Φ γ cargs hI hl hr
 match cargs,hl with
 | [c0,c1],_=>
   obtain⟨g,blk,p,v,rfl,rfl,hgv,hgo,hB,hp1,hp2⟩:=bld_arg hI (hr 0 c0 _ rfl rfl)
   have h1:=rep_int (arel_pv (hr 1 c1 _ rfl rfl))
   subst h1
   refine(hc blk p v _ w c.toNat hB (by rw[Lib.byteCells_length];exact h)).mono fun e w' ⟨he,hW⟩=>?_
   obtain⟨v',hnow,hown',hne',hblk⟩:=hW.now
   have hmem:∀k,k∈g.own↔k=blk∨v.ownBlock=some k:=fun k=>by rw[hgo];simp
   have hkeep:∀k,k<w.heap.size→k∉g.own→w'.heap[k]?=w.heap[k]?:=fun k hk hn=>hW.old k hk (fun e=>hn ((hmem k).2 (.inl e))) (fun e=>hn ((hmem k).2 (.inr e)))
   have hphi:∀k,k∈g.own→∀j,¬ Φ k j:=fun k hk j=>by
    rcases(hmem k).1 hk with rfl|h
    ·exact hp1 j
    exact hp2 k h j
   have hok:=hI.setObj (o':=.bld (b++[c])) (g':=⟨g.v,blk::v'.ownBlock.toList⟩) (l:=0) (g:=g) (o:=.bld b) rfl rfl hkeep hW.size hW.os hW.tape hW.output (fun _ _ h=>h) (fun _ _ h _ _=>h) (fun k j h=>Nat.lt_of_lt_of_le (hI.phi k j h) hW.size)
    (fun k j h hk=>absurd h (hphi k hk j)) (fun k hk=>by
      simp only[List.mem_cons,Option.mem_toList]at hk
      rcases hk with rfl|hk
      ·exact⟨.inl ((hmem k).2 (.inl rfl)),Nat.lt_of_lt_of_le hB.lt hW.size⟩
      obtain⟨h1,h2⟩:=hblk k hk
      exact⟨h1.elim (fun h=>.inl ((hmem k).2 (.inr h))) .inr,h2⟩) (.inl rfl) (fun e sz n h=>by cases h)
    (fun hE=>by
      refine⟨blk,.pointer (some ⟨blk,0,none⟩),v',hgv,rfl,.inr rfl,hnow,?_,hne',hp1,fun k hk j hj=>?_⟩
      ·have e1:(b++[c]).map (fun u=>Value.int .u8 u.toNat)=Lib.byteCells b++[.int .u8 c.toNat]:=by
        rw[List.map_append]
        rfl
       have e2:(Lib.byteCells b++[Value.int .u8 c.toNat]).length=(b++[c]).length:=by rw[←e1,List.length_map]
       rw[e1,←e2]
       exact hown'
      rcases(hblk k hk).1 with h|h
      ·exact hp2 k h j hj
      have:=hI.phi k j hj
      omega)
   exact⟨[.nilIface],_,_,he,hok,rfl,fun i u a hu ha=>by
    match i,hu,ha with
    | 0,hu,ha=>cases hu;cases ha;exact .pv .nil⟩
end
end Go.Abs
