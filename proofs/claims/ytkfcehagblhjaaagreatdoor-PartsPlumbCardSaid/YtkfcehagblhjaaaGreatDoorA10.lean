import Derived.Test.YtkfcehagblhjaaaGreatDoorA8
import Derived.Laws.IdiomStrings
set_option linter.unusedVariables false
set_option linter.unusedSimpArgs false
set_option linter.defProp false
namespace Go.Abs
open Go.RowKit
section
variable {E:Env}{γ:List Gh}{H:List AObj}{Φ:Nat→Nat→Prop}{w:World}
theorem qlen_sound(hI:OInv E γ H Φ w){ty t:TypeId}{v:Value}{x r:AV}(hx:ARel γ H Φ w v x)(h:qlen E.T H ty x=some r):
 ∃u,(Builtin.len_ #[ty] t #[v]).run E.P w=.ok u w∧ARel γ H Φ w u r:=by
 unfold qlen at h
 split at h
 ·rename_i hT
  obtain⟨d,hd,hk⟩:=(E.hT _ _ hT).und
  have hdd:=tk_str hk
  rw[hdd]at hd
  split at h
  ·simp only[Option.some.injEq]at h
   subst h
   have:=rep_str (arel_pv hx)
   subst this
   exact⟨_,by simp[Builtin.len_,run_underlying hd,goInt];rfl,.pv (.int _ _)⟩
  cases h
 ·rename_i hT
  obtain⟨d,hd,hk⟩:=(E.hT _ _ hT).und
  have hdd:=tk_slice hk
  rw[hdd]at hd
  have run:∀A n c,(Builtin.len_ #[ty] t #[.slice A n c]).run E.P w=.ok (.int .i64 n) w:=fun A n c=>by
   simp[Builtin.len_,run_underlying hd,goInt]
  split at h
  ·simp only[Option.some.injEq]at h
   subst h
   cases arel_pv hx with
   | sliceNil=>exact⟨_,run _ _ _,.pv (.int _ _)⟩
   | sliceAny A cap hm=>exact⟨_,run _ _ _,.pv (.int _ _)⟩
   | slice b o len cap sz xs vs hl hc hm hsz h1 hcell hrep=>exact⟨_,run _ _ _,by rw[hl];exact .pv (.int _ _)⟩
  ·simp only[Option.some.injEq]at h
   subst h
   cases hx with
   | vec A l n cap e sz len hrow hn hA hcur=>exact⟨_,run _ _ _,.pv (.int _ _)⟩
  ·simp only[Option.some.injEq]at h
   subst h
   cases arel_pv hx with
   | snil=>exact⟨_,run _ _ _,.pv (.int _ _)⟩
  cases h
 ·rename_i hT
  obtain⟨d,hd,hk⟩:=(E.hT _ _ hT).und
  have hdd:=tk_map hk
  rw[hdd]at hd
  split at h
  ·rename_i l
   split at h
   ·rename_i es hH
    simp only[Option.some.injEq]at h
    subst h
    obtain⟨g,hgl,b,ents,clock,hv,_,hb,hsz,hrel,_⟩:=hI.gh hH
    cases hx with
    | mref b' l hg=>
      have hbb:b'=b:=by
       simp only[gv,hgl,Option.map_some,Option.some.injEq]at hg
       rw[hv]at hg
       injection hg with hg
       injection hg with hg
       exact hg.symm
      subst hbb
      have hget:(getObj b').run E.P w=.ok (.map ents clock) w:=by simp[getObj,Sem.run,hb]
      refine⟨.int .i64 ents.size,by simp[Builtin.len_,run_underlying hd,hget,goInt],?_⟩
      rw[hsz]
      exact .pv (.int _ _)
   cases h
  cases h
 cases h
theorem qconv_sound{src dst:TypeId}{v:Value}{x r:AV}(hx:ARel γ H Φ w v x)(h:qconv E.T src dst x=some r):
 ∃u,(convert src dst v).run E.P w=.ok u w∧ARel γ H Φ w u r:=by
 unfold qconv at h
 split at h
 ·rename_i hs hd
  obtain⟨d1,hd1,hk1⟩:=(E.hT _ _ hs).und
  obtain⟨d2,hd2,hk2⟩:=(E.hT _ _ hd).und
  rw[tk_int hk1]at hd1
  rw[tk_int hk2]at hd2
  simp only[Option.some.injEq]at h
  subst h
  have:=rep_int (arel_pv hx)
  subst this
  exact⟨_,by simp[convert,run_underlying hd1,run_underlying hd2,Conv.intToInt],.pv (.int _ _)⟩
 ·rename_i hs hd
  obtain⟨d1,hd1,hk1⟩:=(E.hT _ _ hs).und
  obtain⟨d2,hd2,hk2⟩:=(E.hT _ _ hd).und
  rw[tk_str hk1]at hd1
  rw[tk_str hk2]at hd2
  simp only[Option.some.injEq]at h
  subst h
  have:=rep_str (arel_pv hx)
  subst this
  exact⟨_,by simp[convert,run_underlying hd1,run_underlying hd2],.pv (.str _)⟩
 cases h
theorem bytesPV_spec:∀ {xs:List PV} {s:List UInt8},bytesPV xs=some s→s.length=xs.length∧∀ (k:Nat) c,s[k]?=some c→xs[k]?=some (.int .u8 (c.toNat:Int))
 | [],s,h=>by
   simp only[bytesPV,Option.some.injEq]at h
   subst h
   exact⟨rfl,fun k c hc=>by simp at hc⟩
 | x::xs,s,h=>by
   unfold bytesPV at h
   split at h
   ·rename_i e
    cases e
   ·rename_i n r e
    injection e with e1 e2
    subst e1 e2
    split at h
    ·rename_i hn
     obtain⟨s',hs',rfl⟩:=Option.map_eq_some_iff.1 h
     obtain⟨h1,h2⟩:=bytesPV_spec hs'
     refine⟨by simp[h1],fun k c hc=>?_⟩
     cases k with
     | zero=>
       simp only[List.getElem?_cons_zero,Option.some.injEq]at hc ⊢
       subst hc
       have:(UInt8.ofNat n.toNat).toNat=n.toNat % 256:=rfl
       rw[this,Nat.mod_eq_of_lt (by omega),Int.toNat_of_nonneg hn.1]
     | succ k=>
       rw[List.getElem?_cons_succ]at hc ⊢
       exact h2 k c hc
    cases h
   cases h
theorem qbytes_sound(hI:OInv E γ H Φ w){src dst:TypeId}{v:Value}{l n:Nat}{r:AV}(hx:ARel γ H Φ w v (.vec l n))(h:qbytes E.T H src dst l n=some r):
 ∃u,(convert src dst v).run E.P w=.ok u w∧ARel γ H Φ w u r:=by
 unfold qbytes at h
 split at h
 ·rename_i e _ _ _ _ _ _ e' xs fz hs hd hH
  split at h
  ·rename_i hc
   obtain⟨hu8,hn⟩:=hc
   obtain⟨s,hb,rfl⟩:=Option.map_eq_some_iff.1 h
   obtain⟨hsl,hsg⟩:=bytesPV_spec hb
   obtain⟨d1,hd1,hk1⟩:=(E.hT _ _ hs).und
   obtain⟨d2,hd2,hk2⟩:=(E.hT _ _ hd).und
   rw[tk_slice hk1]at hd1
   rw[tk_str hk2]at hd2
   have he:E.P.underlying e=some (.int .u8):=by
    unfold isU8 at hu8
    split at hu8
    ·rename_i hTe
     obtain⟨d3,hd3,hk3⟩:=(E.hT _ _ hTe).und
     rw[tk_int hk3]at hd3
     exact hd3
    cases hu8
   obtain⟨g,hg,hO⟩:=hI.gh hH
   obtain⟨cells,hown,hcl,hrep,hsz,h1,_,_,_⟩:=hO
   have hfl:=flat_length hsz
   cases hx with
   | vec A _ _ cap e0 sz0 len0 hrow hn0 hA hcur=>
     have hre:=rowAt_row hH
     rw[hrow]at hre
     injection hre with hre
     injection hre with _ hre
     injection hre with _ hlen
     have hgv:=hcur (by omega)
     simp only[gv,hg,Option.map_some,Option.some.injEq]at hgv
     rcases hown.2 with⟨hnil,hz⟩|⟨b,cap',cur,hv',_⟩
     ·have hs0:s=[]:=List.eq_nil_of_length_eq_zero (by omega)
      rw[hgv]at hnil
      injection hnil with e1 e2 e3
      subst e1 e2 e3
      refine⟨.string ⟨#[]⟩,?_,by rw[hs0];exact .pv (.str [])⟩
      rw[run_convert_bytes_string w src dst e none 0 0 hd1 he hd2]
      simp[Conv.bytesToString]
      rfl
     rw[hgv]at hv'
     injection hv' with e1 e2 e3
     subst e1 e3
     refine⟨.string ⟨s.toArray⟩,?_,.pv (.str s)⟩
     rw[←hn,←hsl]
     refine run_convert_bytes_back w src dst e ⟨b,0,none⟩ cap s hd1 he hd2 fun j hj=>?_
     have hkc:j<cells.length:=by omega
     have hc:=hown.cells (g:=b) (by rw[hgv];rfl) j cells[j] (List.getElem?_eq_getElem hkc)
     rw[hc]
     have hxj:=hsg j s[j] (List.getElem?_eq_getElem hj)
     have hfa:=flat_at hsz j 0 _ hxj (by omega)
     rw[Nat.mul_one,Nat.add_zero]at hfa
     have hr:=hrep j cells[j] (.int .u8 (s[j].toNat:Int)) (List.getElem?_eq_getElem hkc) (by rw[hfa];rfl)
     rw[rep_int hr]
  cases h
 cases h
theorem bytesPV_one:∀ {xs:List PV} {s:List UInt8},bytesPV xs=some s→∀x∈xs,x.cells.length=1
 | [],s,h,x,hx=>by simp at hx
 | y::xs,s,h,x,hx=>by
   unfold bytesPV at h
   split at h
   ·rename_i e
    cases e
   ·rename_i n r e
    injection e with e1 e2
    subst e1 e2
    split at h
    ·obtain⟨s',hs',rfl⟩:=Option.map_eq_some_iff.1 h
     rcases List.mem_cons.1 hx with rfl|hx
     ·rfl
     exact bytesPV_one hs' x hx
    cases h
   cases h
theorem qbytesF_sound{src dst:TypeId}{v:Value}{xs:List PV}{r:AV}(hx:ARel γ H Φ w v (.full xs))(h:qbytesF E.T src dst xs=some r):
 ∃u,(convert src dst v).run E.P w=.ok u w∧ARel γ H Φ w u r:=by
 unfold qbytesF at h
 split at h
 ·rename_i e _ _ _ _ _ _ hs hd
  split at h
  ·rename_i hu8
   obtain⟨s,hb,rfl⟩:=Option.map_eq_some_iff.1 h
   obtain⟨hsl,hsg⟩:=bytesPV_spec hb
   obtain⟨d1,hd1,hk1⟩:=(E.hT _ _ hs).und
   obtain⟨d2,hd2,hk2⟩:=(E.hT _ _ hd).und
   rw[tk_slice hk1]at hd1
   rw[tk_str hk2]at hd2
   have he:E.P.underlying e=some (.int .u8):=by
    unfold isU8 at hu8
    split at hu8
    ·rename_i hTe
     obtain⟨d3,hd3,hk3⟩:=(E.hT _ _ hTe).und
     rw[tk_int hk3]at hd3
     exact hd3
    cases hu8
   have h11:=bytesPV_one hb
   have hfl:=flat_length h11
   cases hx with
   | full A n _ hrep=>
     cases hrep with
     | sliceNil=>
       have hs0:s=[]:=List.eq_nil_of_length_eq_zero hsl
       refine⟨.string ⟨#[]⟩,?_,by rw[hs0];exact .pv (.str [])⟩
       rw[run_convert_bytes_string w src dst e none 0 0 hd1 he hd2]
       simp[Conv.bytesToString]
       rfl
     | sliceAny A hm=>
       have hs0:s=[]:=List.eq_nil_of_length_eq_zero hsl
       subst hs0
       exact⟨.string ⟨([]:List UInt8).toArray⟩,run_convert_bytes_back w src dst e A 0 [] hd1 he hd2 (fun j hj=>by simp at hj),.pv (.str [])⟩
     | slice b o len cap sz _ vs hl hc hm hsz h1 hcell hrep=>
       refine⟨.string ⟨s.toArray⟩,?_,.pv (.str s)⟩
       have hls:n=s.length:=by omega
       subst hls
       refine run_convert_bytes_back w src dst e ⟨b,o,none⟩ _ s hd1 he hd2 fun j hj=>?_
       have hxj:=hsg j s[j] (List.getElem?_eq_getElem hj)
       have hfa:=flat_at h11 j 0 _ hxj (by omega)
       rw[Nat.mul_one,Nat.add_zero]at hfa
       have hr:=hrep j (.int .u8 (s[j].toNat:Int)) (by rw[hfa];rfl)
       have hc:=(hcell j (by omega)).2
       rw[rep_int hr]at hc
       rw[Addr.add_lit];exact hc
  cases h
 cases h
theorem qconv2_sound(hI:OInv E γ H Φ w){src dst:TypeId}{v:Value}{x r:AV}(hx:ARel γ H Φ w v x)(h:qconv2 E.T H src dst x=some r):
 ∃u,(convert src dst v).run E.P w=.ok u w∧ARel γ H Φ w u r:=by
 cases x with
 | vec l n=>exact qbytes_sound hI hx h
 | full xs=>exact qbytesF_sound hx h
 | _=>exact qconv_sound hx h
theorem run_vval{s:Sem Value}{u:Value}{w':World}(h:s.run E.P w=.ok u w'):(do pure (Next.value (← s)):Sem Next).run E.P w=.ok (.value u) w':=by
 simp only[bind,Sem.run_bind',h,Result.andThen_ok]
 rfl
theorem q_sound(hI:OInv E γ H Φ w){a:Act}{t:Nat→AV}(hs:Slots γ H Φ w a t){o:Oper}{r:AV}(h:qval E.T t H o.op=some r):
 ∃u,(execOp a.eval o).run E.P w=.ok (.value u) w∧ARel γ H Φ w u r:=by
 unfold qval at h
 unfold execOp
 split at h
 ·rename_i x ho
  simp only[Option.some.injEq]at h
  subst h
  exact⟨a.eval x,by simp only[ho];rfl,ev_rel hs x⟩
 ·rename_i x ho
  simp only[Option.some.injEq]at h
  subst h
  exact⟨a.eval x,by simp only[ho];rfl,ev_rel hs x⟩
 ·rename_i c x y ho
  split at h
  ·rename_i b hc
   simp only[Option.some.injEq]at h
   subst h
   have hcr:=ev_rel hs c
   rw[hc]at hcr
   have hcv:=rep_bool (arel_pv hcr)
   refine⟨if b then a.eval x else a.eval y,by simp only[ho,hcv];rfl,?_⟩
   cases b
   ·exact ev_rel hs y
   exact ev_rel hs x
  cases h
 ·rename_i op ty x y yt ho
  obtain⟨u,hu,hr⟩:=qbin_sound op ty x y (ev_rel hs x) (ev_rel hs y) h
  exact⟨u,by simp only[ho];exact run_vval hu,hr⟩
 ·rename_i op ty x ho
  obtain⟨u,hu,hr⟩:=qun_sound (E:=E) op (ev_rel hs x) h
  exact⟨u,by simp only[ho];exact run_vval hu,hr⟩
 ·rename_i ty x ho
  obtain⟨u,hu,hr⟩:=load_sound hI (ev_rel hs x) h
  exact⟨u,by simp only[ho];exact run_vval hu,hr⟩
 ·rename_i ty x f ho
  obtain⟨u,hu,hr⟩:=qfieldAddr_sound (ev_rel hs x) h
  exact⟨u,by simp only[ho];exact run_vval hu,hr⟩
 ·rename_i ty x i ho
  obtain⟨u,hu,hr⟩:=qindexAddr_sound (nrm_rel (ev_rel hs x)) (ev_rel hs i) h
  exact⟨u,by simp only[ho];exact run_vval hu,hr⟩
 ·rename_i ty x i ho
  obtain⟨u,hu,hr⟩:=qindex_sound (ev_rel hs x) (ev_rel hs i) h
  exact⟨u,by simp only[ho];exact run_vval hu,hr⟩
 ·rename_i ty x lo hi ho
  have side:∀ (o:Option Operand) (b:AV) (c:Value),o.map (ev t)=some b→o.map a.eval=some c→ARel γ H Φ w c b:=by
   intro o b c h1 h2
   cases o with
   | none=>cases h1
   | some z=>
     simp only[Option.map_some,Option.some.injEq]at h1 h2
     rw[←h1,←h2]
     exact ev_rel hs z
  obtain⟨u,hu,hr⟩:=qslice_sound hI (vlo:=lo.map a.eval) (vhi:=hi.map a.eval) (ev_rel hs x) (side lo) (by cases lo<;>simp) (side hi) (by cases hi<;>simp) h
  exact⟨u,by simp only[ho];exact run_vval hu,hr⟩
 ·rename_i x i ho
  have hx:=ev_rel hs x
  unfold qextract at h
  split at h
  ·rename_i vs hv
   rw[hv]at hx
   generalize hax:a.eval x=y at hx
   cases hx with
   | tup ws vs hl hrel=>
     have hi:i<ws.length:=by
      have:=(List.getElem?_eq_some_iff.1 h).1
      omega
     refine⟨ws[i],?_,hrel i ws[i] r (List.getElem?_eq_getElem hi) h⟩
     simp only[ho,hax]
     refine run_vval ?_
     simp[Instr.extract,hi]
  cases h
 ·rename_i ty parts ho
  obtain⟨u,hu,hr⟩:=qbuild_sound hI (vparts:=parts.map fun(p:Nat×Operand)=>(p.1,a.eval p.2)) (by simp) (fun j p q hp hq=>by
   rw[List.getElem?_map]at hp
   rw[Array.getElem?_map]at hq
   obtain⟨z,hz,rfl⟩:=Option.map_eq_some_iff.1 hp
   rw[Array.getElem?_toList]at hz
   rw[hz]at hq
   simp only[Option.map_some,Option.some.injEq]at hq
   subst hq
   exact⟨rfl,ev_rel hs z.2⟩) h
  exact⟨u,by simp only[ho];exact run_vval hu,hr⟩
 ·rename_i x ho
  have hx:=ev_rel hs x
  refine⟨a.eval x,?_,?_⟩
  ·simp only[ho]
   generalize a.eval x=y at hx ⊢
   generalize ev t x=z at hx h
   unfold qnil at h
   cases hx<;>first|rfl|simp at h
  generalize ev t x=z at hx h
  unfold qnil at h
  split at h<;>first|(simp only[Option.some.injEq]at h;subst h;exact hx)|cases h
 ·rename_i ty m k ok ho
  obtain⟨u,hu,hr⟩:=qlookup_sound hI (ev_rel hs m) (ev_rel hs k) h
  exact⟨u,by simp only[ho];exact run_vval hu,hr⟩
 ·rename_i src dst x ho
  obtain⟨u,hu,hr⟩:=qconv2_sound hI (ev_rel hs x) h
  exact⟨u,by simp only[ho];exact run_vval hu,hr⟩
 ·rename_i args ats ho
  split at h
  ·rename_i x ty hx hty
   have ha:args=#[x]:=by rw[←Array.toArray_toList (xs:=args),hx]
   have hat:ats=#[ty]:=by rw[←Array.toArray_toList (xs:=ats),hty]
   subst ha;subst hat
   obtain⟨u,hu,hr⟩:=qlen_sound hI (t:=o.type) (nrm_rel (ev_rel hs x)) h
   refine⟨u,?_,hr⟩
   simp only[ho,resolve,bind,Sem.run_bind']
   simp only[pure,Sem.run_pure',Result.andThen_ok,invoke,builtin]
   exact run_vval (by simpa using hu)
  cases h
 ·rename_i f first caps ho
  split at h
  ·rename_i h0
   obtain⟨ls,hls,rfl⟩:=Option.map_eq_some_iff.1 h
   have hf:first=#[]:=Array.eq_empty_of_size_eq_zero h0
   subst hf
   have key:∀ (xs:List Operand) (ls:List Nat),refsOf (xs.map (ev t))=some ls→(xs.map a.eval).length=ls.length∧∀ (k:Nat) v l,(xs.map a.eval)[k]?=some v→ls[k]?=some l→∃b,v=.pointer (some ⟨b,0,none⟩)∧gv γ l=some v:=by
    intro xs
    induction xs with
    | nil=>
      intro ls h
      simp only[List.map_nil,refsOf,Option.some.injEq]at h
      subst h
      exact⟨rfl,fun k v l hv=>by simp at hv⟩
    | cons x xs ih=>
      intro ls h
      have hx:=ev_rel hs x
      rw[List.map_cons]at h
      generalize ev t x=y at hx h
      unfold refsOf at h
      split at h
      ·rename_i heq
       cases heq
      ·rename_i l r heq
       injection heq with e1 e2
       subst e1 e2
       obtain⟨ls',hls',rfl⟩:=Option.map_eq_some_iff.1 h
       obtain⟨i1,i2⟩:=ih ls' hls'
       refine⟨by simp[i1],fun k v l' hv hl'=>?_⟩
       cases k with
       | zero=>
         simp only[List.map_cons,List.getElem?_cons_zero,Option.some.injEq]at hv hl'
         subst hv hl'
         generalize a.eval x=u at hx
         cases hx with
         | ref b l off hg=>exact⟨b,rfl,hg⟩
       | succ k=>
         rw[List.map_cons,List.getElem?_cons_succ]at hv
         rw[List.getElem?_cons_succ]at hl'
         exact i2 k v l' hv hl'
      cases h
   obtain⟨k1,k2⟩:=key caps.toList ls hls
   refine⟨.func (.func f) #[] (caps.map a.eval),by simp only[ho];exact run_vval (by simp[Instr.makeFunc]),?_⟩
   have:caps.map a.eval=⟨caps.toList.map a.eval⟩:=by rw[←Array.toList_map]
   rw[this]
   exact .fn f _ ls k1 k2
  cases h
 cases h
end
end Go.Abs
namespace Go.Abs
open Go.RowKit
structure Since(γ₀:List Gh)(Φ₀:Nat→Nat→Prop)(w₀:World)(γ:List Gh)(Φ:Nat→Nat→Prop)(w:World):Prop where
 os:w.os=w₀.os
 tape:w.tape=w₀.tape
 output:w.output=w₀.output
 size:w₀.heap.size≤w.heap.size
 foreign:∀b,b<w₀.heap.size→(∀ (i:Nat) g,γ₀[i]?=some g→b∉g.own)→w.heap[b]?=w₀.heap[b]?
 phi:∀b k,Φ b k→b<w₀.heap.size→(∀ (i:Nat) g,γ₀[i]?=some g→b∉g.own)→Φ₀ b k
 own:∀ (i:Nat) g,γ[i]?=some g→∀b∈g.own,w₀.heap.size≤b∨∃ (j:Nat) (g₀:Gh),γ₀[j]?=some g₀∧b∈g₀.own
theorem Since.refl(γ:List Gh)(Φ:Nat→Nat→Prop)(w:World):Since γ Φ w γ Φ w:=
 ⟨rfl,rfl,rfl,Nat.le_refl _,fun _ _ _=>rfl,fun _ _ h _ _=>h,fun i g hg _ hb=>.inr ⟨i,g,hg,hb⟩⟩
theorem Since.trans{γ₀ γ₁ γ₂:List Gh}{Φ₀ Φ₁ Φ₂:Nat→Nat→Prop}{w₀ w₁ w₂:World}(h:Since γ₀ Φ₀ w₀ γ₁ Φ₁ w₁)(k:Since γ₁ Φ₁ w₁ γ₂ Φ₂ w₂):Since γ₀ Φ₀ w₀ γ₂ Φ₂ w₂:=by
 have key:∀b,b<w₀.heap.size→(∀ (i:Nat) g,γ₀[i]?=some g→b∉g.own)→∀ (i:Nat) g,γ₁[i]?=some g→b∉g.own:=by
  intro b hb hn i g hg hm
  rcases h.own i g hg b hm with h1|⟨j,g₀,hj,hm'⟩
  ·omega
  exact hn j g₀ hj hm'
 refine⟨k.os.trans h.os,k.tape.trans h.tape,k.output.trans h.output,Nat.le_trans h.size k.size,fun b hb hn=>?_,fun b i hΦ hb hn=>?_,fun i g hg b hb=>?_⟩
 ·exact(k.foreign b (Nat.lt_of_lt_of_le hb h.size) (key b hb hn)).trans (h.foreign b hb hn)
 ·exact h.phi b i (k.phi b i hΦ (Nat.lt_of_lt_of_le hb h.size) (key b hb hn)) hb hn
 rcases k.own i g hg b hb with h1|⟨j,g₁,hj,hm⟩
 ·exact .inl (Nat.le_trans h.size h1)
 exact h.own j g₁ hj b hm
structure Ok(E:Env)(γ₀:List Gh)(H₀:List AObj)(Φ₀:Nat→Nat→Prop)(w₀:World)(γ:List Gh)(H:List AObj)(Φ:Nat→Nat→Prop)(w:World):Prop where
 inv:OInv E γ H Φ w
 evo:Evo γ₀ H₀ Φ₀ w₀ γ H Φ w
 since:Since γ₀ Φ₀ w₀ γ Φ w
theorem Ok.refl{E:Env}{γ:List Gh}{H:List AObj}{Φ:Nat→Nat→Prop}{w:World}(h:OInv E γ H Φ w):Ok E γ H Φ w γ H Φ w:=⟨h,.refl _ _ _ _,.refl _ _ _⟩
theorem Ok.trans{E:Env}{γ₀ γ₁ γ₂:List Gh}{H₀ H₁ H₂:List AObj}{Φ₀ Φ₁ Φ₂:Nat→Nat→Prop}{w₀ w₁ w₂:World}(h:Ok E γ₀ H₀ Φ₀ w₀ γ₁ H₁ Φ₁ w₁)(k:Ok E γ₁ H₁ Φ₁ w₁ γ₂ H₂ Φ₂ w₂):
 Ok E γ₀ H₀ Φ₀ w₀ γ₂ H₂ Φ₂ w₂:=⟨k.inv,h.evo.trans k.evo,h.since.trans k.since⟩
section
variable {E:Env}{γ γ':List Gh}{H H':List AObj}{Φ Φ':Nat→Nat→Prop}{w w':World}
theorem cell_of_heap{b k:Nat}(h:w'.heap[b]?=w.heap[b]?):w'.cell? ⟨b,k,none⟩=w.cell? ⟨b,k,none⟩:=World.cell?_of_block (a:=⟨b,k,none⟩) h
theorem ownsRow_of_heap{e:TypeId}{sz n:Nat}{v:Value}{cells:List Value}(h:w.ownsRow 0 e sz v n cells)(hb:∀b,v.ownBlock=some b→w'.heap[b]?=w.heap[b]?):w'.ownsRow 0 e sz v n cells:=by
 refine⟨h.1,?_⟩
 rcases h.2 with hn|⟨g,cap,cur,rfl,hg,hgg,rest⟩
 ·exact .inl hn
 exact .inr ⟨g,cap,cur,rfl,hg,(hb g rfl).trans hgg,rest⟩
theorem RowRel.keep{e:TypeId}{sz:Nat}{xs:List PV}{fz:Bool}{g:Gh}(hΦ:∀b k,Φ b k→Φ' b k)(hc:∀b k,Φ b k→w'.cell? ⟨b,k,none⟩=w.cell? ⟨b,k,none⟩)(hO:RowRel Φ w e sz xs fz g)(hblk:∀b∈g.own,w'.heap[b]?=w.heap[b]?)(hphi:∀b∈g.own,∀k,Φ' b k→Φ b k):
 RowRel Φ' w' e sz xs fz g:=by
 obtain⟨cells,hown,hcl,hrep,hsz,h1,ho,h0,hp⟩:=hO
 have hmem:∀b,g.v.ownBlock=some b→b∈g.own:=fun b hb=>by rw[ho,hb];simp
 exact⟨cells,ownsRow_of_heap hown (fun b hb=>hblk b (hmem b hb)),hcl,fun k v c hv hc'=>(hrep k v c hv hc').mono hΦ hc,hsz,h1,ho,h0,fun b hb k=>
  ⟨fun hk=>(hp b hb k).1 (hphi b (hmem b hb) k hk),fun hf hk=>hΦ _ _ ((hp b hb k).2 hf hk)⟩⟩
theorem ObjRel.keep(hE:Evo γ H Φ w γ' H' Φ' w'){o:AObj}{g:Gh}(hO:ObjRel E γ H Φ w o g)(hblk:∀b∈g.own,w'.heap[b]?=w.heap[b]?)(hphi:∀b∈g.own,∀k,Φ' b k→Φ b k):
 ObjRel E γ' H' Φ' w' o g:=by
 cases o with
 | var cs=>
   obtain⟨b,T,vs,hv,ho,hb,hl,hr,hn⟩:=hO
   exact⟨b,T,vs,hv,ho,(hblk b (by simp[ho])).trans hb,hl,fun k v c h1 h2=>⟨(hr k v c h1 h2).1,(hr k v c h1 h2).2.mono hE⟩,fun k hk=>hn.1 k (hphi b (by simp[ho]) k hk),hn.2⟩
 | row e sz xs fz=>
   obtain⟨cells,hown,hcl,hrep,hsz,h1,ho,h0,hp⟩:=hO
   have hmem:∀b,g.v.ownBlock=some b→b∈g.own:=fun b hb=>by rw[ho,hb];simp
   exact⟨cells,ownsRow_of_heap hown (fun b hb=>hblk b (hmem b hb)),hcl,fun k v c hv hc=>(hrep k v c hv hc).mono hE.phi hE.cell,hsz,h1,ho,h0,fun b hb k=>
    ⟨fun hk=>(hp b hb k).1 (hphi b (hmem b hb) k hk),fun hf hk=>hE.phi _ _ ((hp b hb k).2 hf hk)⟩⟩
 | map es=>
   obtain⟨b,ents,clock,hv,ho,hb,hs,hr,hn⟩:=hO
   exact⟨b,ents,clock,hv,ho,(hblk b (by simp[ho])).trans hb,hs,fun k x p hx hp=>⟨(hr k x p hx hp).1.mono hE.phi hE.cell,(hr k x p hx hp).2.mono hE.phi hE.cell⟩,fun k hk=>hn k (hphi b (by simp[ho]) k hk)⟩
 | bld s=>
   obtain⟨b,p,v,hv,ho,hp,hb,hown,hne,hn,hn2⟩:=hO
   have hmem:∀c,v.ownBlock=some c→c∈g.own:=fun c hc=>by rw[ho,hc];simp
   exact⟨b,p,v,hv,ho,hp,(hblk b (by simp[ho])).trans hb,ownsRow_of_heap hown (fun c hc=>hblk c (hmem c hc)),hne,fun k hk=>hn k (hphi b (by simp[ho]) k hk),fun c hc k hk=>hn2 c hc k (hphi c (hmem c hc) k hk)⟩
 | brow e s=>
   obtain⟨hown,ho,hn⟩:=hO
   have hmem:∀c,g.v.ownBlock=some c→c∈g.own:=fun c hc=>by rw[ho,hc];simp
   refine⟨⟨hown.1,hown.2.imp id fun⟨b,cap,cur,fz,hv,hb0,hb,r⟩=>⟨b,cap,cur,fz,hv,hb0,(hblk b (hmem b (by rw[hv];rfl))).trans hb,r⟩⟩,ho,fun c hc k hk=>hn c hc k (hphi c (hmem c hc) k hk)⟩
 | prn e1 s e2 sz xs=>
   obtain⟨b,v0,v1,v2,hv,ho,hnd,hb,h0,hn,hown,hn1,hR⟩:=hO
   have hm0:b∈g.own:=by rw[ho];simp
   have hm1:∀c,v1.ownBlock=some c→c∈g.own:=fun c hc=>by rw[ho,hc];simp
   have hm2:∀c,v2.ownBlock=some c→c∈g.own:=fun c hc=>by rw[ho,hc];simp
   refine⟨b,v0,v1,v2,hv,ho,hnd,(hblk b hm0).trans hb,h0,fun k hk=>hn k (hphi b hm0 k hk),⟨hown.1,hown.2.imp id fun⟨b,cap,cur,fz,hv,hb0,hb,r⟩=>⟨b,cap,cur,fz,hv,hb0,(hblk b (hm1 b (by rw[hv];rfl))).trans hb,r⟩⟩,fun c hc k hk=>hn1 c hc k (hphi c (hm1 c hc) k hk),?_⟩
   exact hR.keep hE.phi hE.cell (fun c hc=>hblk c (hm2 c (by simpa using hc))) (fun c hc=>hphi c (hm2 c (by simpa using hc)))
 | iter s p=>
   obtain⟨b,hv,ho,hb,hn⟩:=hO
   exact⟨b,hv,ho,(hblk b (by simp[ho])).trans hb,fun k hk=>hn k (hphi b (by simp[ho]) k hk)⟩
 | tree e sz off e2 sz2 m xs=>
   obtain⟨cells,gs,hown,hcl,hsz,h1,h0,hoff,hn,hgl,hm,ho,hnd,hrep,hin⟩:=hO
   have hmem:∀b,g.v.ownBlock=some b→b∈g.own:=fun b hb=>by rw[ho,hb];simp
   have hmem2:∀ (i:Nat) gi,gs[i]?=some gi→∀b∈gi.own,b∈g.own:=fun i gi hi b hb=>by
    rw[ho]
    exact List.mem_append_right _ (List.mem_flatMap.2 ⟨gi,List.mem_of_getElem? hi,hb⟩)
   exact⟨cells,gs,ownsRow_of_heap hown (fun b hb=>hblk b (hmem b hb)),hcl,hsz,h1,h0,hoff,fun b hb k hk=>hn b hb k (hphi b (hmem b hb) k hk),hgl,hm,ho,hnd,
    fun k v c hv hc hk=>(hrep k v c hv hc hk).mono hE.phi hE.cell,fun i gi hi=>by
     obtain⟨ys,hy,hcg,hR⟩:=hin i gi hi
     exact⟨ys,hy,hcg,hR.keep hE.phi hE.cell (fun b hb=>hblk b (hmem2 i gi hi b hb)) (fun b hb=>hphi b (hmem2 i gi hi b hb))⟩⟩
 | hrow e sz xs j off l n=>
   obtain⟨cells,hown,hcl,hsz,h1,ho,h0,hoff,hj,hn,hrep,hh⟩:=hO
   have hmem:∀b,g.v.ownBlock=some b→b∈g.own:=fun b hb=>by rw[ho,hb];simp
   exact⟨cells,ownsRow_of_heap hown (fun b hb=>hblk b (hmem b hb)),hcl,hsz,h1,ho,h0,hoff,hj,fun b hb k hk=>hn b hb k (hphi b (hmem b hb) k hk),
    fun k v c hv hc hk=>(hrep k v c hv hc hk).mono hE.phi hE.cell,fun v hv=>(hh v hv).mono hE⟩
 | moved e sz n=>trivial
 | hold d=>exact hO
 | gone=>trivial
theorem gv_append_left{g:Gh}{l:Nat}(h:l<γ.length):gv (γ++[g]) l=gv γ l:=by
 unfold gv
 rw[List.getElem?_append_left h]
theorem gv_some{l:Nat}{v:Value}(h:gv γ l=some v):∃g,γ[l]?=some g∧g.v=v:=by
 unfold gv at h
 obtain⟨g,hg,hv⟩:=Option.map_eq_some_iff.1 h
 exact⟨g,hg,hv⟩
theorem OInv.grow(hI:OInv E γ H Φ w)(hw:∀b,b<w.heap.size→w'.heap[b]?=w.heap[b]?)(hs:w.heap.size≤w'.heap.size)(hos:w'.os=w.os)(htp:w'.tape=w.tape)(hout:w'.output=w.output)
 (hΦ:∀b k,Φ b k→Φ' b k) (hΦn:∀b k,Φ' b k→b<w.heap.size→Φ b k) (hΦl:∀b k,Φ' b k→b<w'.heap.size):Ok E γ H Φ w γ H Φ' w':=by
 have hE:Evo γ H Φ w γ H Φ' w':=⟨hΦ,fun b k h=>cell_of_heap (hw b (hI.phi b k h)),fun _ _ h=>.inl h,fun l e sz n h=>⟨n,h,Nat.le_refl _,fun _=>rfl⟩⟩
 refine⟨⟨hI.len,fun l o g ho hg=>?_,hI.disj,fun i g hg b hb=>⟨(hI.own i g hg b hb).1,Nat.lt_of_lt_of_le (hI.own i g hg b hb).2 hs⟩,hΦl,E.hG w w' hI.gi (fun b hb=>hw b (Nat.lt_of_lt_of_le hb hI.gn)),Nat.le_trans hI.gn hs⟩,hE,
  ⟨hos,htp,hout,hs,fun b hb _=>hw b hb,fun b k h hb _=>hΦn b k h hb,fun i g hg b hb=>.inr ⟨i,g,hg,hb⟩⟩⟩
 exact(hI.obj l o g ho hg).keep hE (fun b hb=>hw b (hI.own l g hg b hb).2) (fun b hb k hk=>hΦn b k hk (hI.own l g hg b hb).2)
theorem OInv.pushObj(hI:OInv E γ H Φ w)(hw:∀b,b<w.heap.size→w'.heap[b]?=w.heap[b]?)(hs:w.heap.size≤w'.heap.size)(hos:w'.os=w.os)(htp:w'.tape=w.tape)(hout:w'.output=w.output)
 (hΦ:∀b k,Φ b k→Φ' b k) (hΦn:∀b k,Φ' b k→b<w.heap.size→Φ b k) (hΦl:∀b k,Φ' b k→b<w'.heap.size) (g:Gh) (o:AObj)
 (hown:∀b∈g.own,w.heap.size≤b∧b<w'.heap.size) (hO:Evo γ H Φ w (γ++[g]) (H++[o]) Φ' w'→ObjRel E (γ++[g]) (H++[o]) Φ' w' o g):Ok E γ H Φ w (γ++[g]) (H++[o]) Φ' w':=by
 have hE:Evo γ H Φ w (γ++[g]) (H++[o]) Φ' w':=by
  refine⟨hΦ,fun b k h=>cell_of_heap (hw b (hI.phi b k h)),fun l v h=>.inl ?_,fun l e sz n h=>⟨n,?_,Nat.le_refl _,fun _=>?_⟩⟩
  ·obtain⟨g',hg',_⟩:=gv_some h
   rw[gv_append_left (List.getElem?_eq_some_iff.1 hg').1]
   exact h
  ·unfold rowAt
   rw[List.getElem?_append_left (rowAt_lt h)]
   exact h
  rw[gv_append_left (by rw[hI.len];exact rowAt_lt h)]
 have old:∀ (i:Nat) x,(γ++[g])[i]?=some x→(i<γ.length∧γ[i]?=some x)∨(i=γ.length∧x=g):=by
  intro i x hx
  by_cases hi:i<γ.length
  ·rw[List.getElem?_append_left hi]at hx
   exact .inl ⟨hi,hx⟩
  rw[List.getElem?_append_right (by omega)]at hx
  have h0:i-γ.length=0:=by
   have:=(List.getElem?_eq_some_iff.1 hx).1
   simp at this
   omega
  rw[h0]at hx
  simp only[List.getElem?_cons_zero,Option.some.injEq]at hx
  exact .inr ⟨by omega,hx.symm⟩
 refine⟨⟨by simp[hI.len],fun l o' g' ho hg=>?_,fun i j gi gj hi hj hij b hb=>?_,fun i x hx b hb=>?_,hΦl,E.hG w w' hI.gi (fun b hb=>hw b (Nat.lt_of_lt_of_le hb hI.gn)),Nat.le_trans hI.gn hs⟩,hE,
  ⟨hos,htp,hout,hs,fun b hb _=>hw b hb,fun b k h hb _=>hΦn b k h hb,fun i x hx b hb=>?_⟩⟩
 ·rcases old l g' hg with⟨hl,hg'⟩|⟨hl,rfl⟩
  ·rw[List.getElem?_append_left (by rw[←hI.len];exact hl)]at ho
   exact(hI.obj l o' g' ho hg').keep hE (fun b hb=>hw b (hI.own l g' hg' b hb).2) (fun b hb k hk=>hΦn b k hk (hI.own l g' hg' b hb).2)
  rw[hl,hI.len,List.getElem?_append_right (Nat.le_refl _)]at ho
  simp only[Nat.sub_self,List.getElem?_cons_zero,Option.some.injEq]at ho
  rw[←ho]
  exact hO hE
 ·rcases old i gi hi with⟨hi1,hi'⟩|⟨hi1,rfl⟩<;>rcases old j gj hj with⟨hj1,hj'⟩|⟨hj1,rfl⟩
  ·exact hI.disj i j gi gj hi' hj' hij b hb
  ·intro hm
   have h1:=(hI.own i gi hi' b hb).2
   have h2:=(hown b hm).1
   omega
  ·intro hm
   have h1:=(hI.own j gj hj' b hm).2
   have h2:=(hown b hb).1
   omega
  omega
 ·rcases old i x hx with⟨_,hx'⟩|⟨_,rfl⟩
  ·exact⟨(hI.own i x hx' b hb).1,Nat.lt_of_lt_of_le (hI.own i x hx' b hb).2 hs⟩
  exact⟨Nat.le_trans hI.gn (hown b hb).1,(hown b hb).2⟩
 rcases old i x hx with⟨_,hx'⟩|⟨_,rfl⟩
 ·exact .inr ⟨i,x,hx',hb⟩
 exact .inl (hown b hb).1
theorem set_get{α:Type}{xs:List α}{l i:Nat}{x y:α}(h:(xs.set l x)[i]?=some y):(i=l∧y=x∧l<xs.length)∨(i≠l∧xs[i]?=some y):=by
 by_cases hi:i=l
 ·subst hi
  have hl:i<xs.length:=by
   have:=(List.getElem?_eq_some_iff.1 h).1
   simpa using this
  rw[List.getElem?_set_self hl]at h
  simp only[Option.some.injEq]at h
  exact .inl ⟨rfl,h.symm,hl⟩
 rw[List.getElem?_set_ne (Ne.symm hi)]at h
 exact .inr ⟨hi,h⟩
theorem rowLike_step{e:TypeId}{sz:Nat}{xs xs':List PV}{fz fz':Bool}{v v':Value}(h1:xs.length≤xs'.length)(h2:xs.length=xs'.length→v'=v):
 ∀e1 sz1 n1,rowLike (.row e sz xs fz)=some (e1,sz1,n1)→∃n',rowLike (.row e sz xs' fz')=some (e1,sz1,n')∧n1≤n'∧(n1=n'→v'=v):=by
 intro e1 sz1 n1 h
 simp only[rowLike,Option.some.injEq,Prod.mk.injEq]at h
 obtain⟨rfl,rfl,rfl⟩:=h
 exact⟨_,rfl,h1,h2⟩
theorem OInv.setObj(hI:OInv E γ H Φ w){l:Nat}{o o':AObj}{g g':Gh}(ho:H[l]?=some o)(hg:γ[l]?=some g)
 (hw:∀b,b<w.heap.size→b∉g.own→w'.heap[b]?=w.heap[b]?) (hs:w.heap.size≤w'.heap.size) (hos:w'.os=w.os) (htp:w'.tape=w.tape) (hout:w'.output=w.output)
 (hΦ:∀b k,Φ b k→Φ' b k) (hΦn:∀b k,Φ' b k→b<w.heap.size→b∉g.own→Φ b k) (hΦl:∀b k,Φ' b k→b<w'.heap.size)
 (hcell:∀b k,Φ b k→b∈g.own→w'.cell? ⟨b,k,none⟩=w.cell? ⟨b,k,none⟩)
 (hown:∀b∈g'.own,(b∈g.own∨w.heap.size≤b)∧b<w'.heap.size) (hv:g'.v=g.v∨∃A n c,g.v=.slice A n c)
 (hrow:∀e sz n,rowLike o=some (e,sz,n)→∃n',rowLike o'=some (e,sz,n')∧n≤n'∧(n=n'→g'.v=g.v))
 (hO:Evo γ H Φ w (γ.set l g') (H.set l o') Φ' w'→ObjRel E (γ.set l g') (H.set l o') Φ' w' o' g'):Ok E γ H Φ w (γ.set l g') (H.set l o') Φ' w':=by
 have hlg:l<γ.length:=(List.getElem?_eq_some_iff.1 hg).1
 have hlH:l<H.length:=(List.getElem?_eq_some_iff.1 ho).1
 have gvs:∀i,gv (γ.set l g') i=if i=l then some g'.v else gv γ i:=by
  intro i
  unfold gv
  by_cases hi:i=l
  ·subst hi
   rw[if_pos rfl,List.getElem?_set_self hlg]
   rfl
  rw[if_neg hi,List.getElem?_set_ne (Ne.symm hi)]
 have hgl:gv γ l=some g.v:=by
  unfold gv
  rw[hg]
  rfl
 have hE:Evo γ H Φ w (γ.set l g') (H.set l o') Φ' w':=by
  refine⟨hΦ,fun b k h=>?_,fun i v h=>?_,fun i e sz n h=>?_⟩
  ·by_cases hb:b∈g.own
   ·exact hcell b k h hb
   exact cell_of_heap (hw b (hI.phi b k h) hb)
  ·rw[gvs i]
   by_cases hi:i=l
   ·subst hi
    rw[hgl]at h
    simp only[Option.some.injEq]at h
    subst h
    rw[if_pos rfl]
    rcases hv with h1|h1
    ·exact .inl (by rw[h1])
    exact .inr h1
   rw[if_neg hi]
   exact .inl h
  by_cases hi:i=l
  ·subst hi
   unfold rowAt at h
   rw[ho,Option.bind_some]at h
   obtain⟨n',h1,h2,h3⟩:=hrow e sz n h
   refine⟨n',?_,h2,fun hx=>?_⟩
   ·unfold rowAt
    rw[List.getElem?_set_self hlH,Option.bind_some,h1]
   rw[gvs i,if_pos rfl,hgl,h3 hx]
  refine⟨n,?_,Nat.le_refl _,fun _=>?_⟩
  ·unfold rowAt
   rw[List.getElem?_set_ne (Ne.symm hi)]
   exact h
  rw[gvs i,if_neg hi]
 refine⟨⟨by simp[hI.len],fun i x y hx hy=>?_,fun i j gi gj hi hj hij b hb=>?_,fun i x hx b hb=>?_,hΦl,
  E.hG w w' hI.gi (fun b hb=>hw b (Nat.lt_of_lt_of_le hb hI.gn) (fun hm=>by have:=(hI.own l g hg b hm).1;omega)),Nat.le_trans hI.gn hs⟩,hE,
  ⟨hos,htp,hout,hs,fun b hb hn=>hw b hb (hn l g hg),fun b k h hb hn=>hΦn b k h hb (hn l g hg),fun i x hx b hb=>?_⟩⟩
 ·rcases set_get hy with⟨rfl,rfl,_⟩|⟨hi,hy'⟩
  ·rw[List.getElem?_set_self hlH]at hx
   simp only[Option.some.injEq]at hx
   subst hx
   exact hO hE
  rw[List.getElem?_set_ne (Ne.symm hi)]at hx
  have hd:∀b∈y.own,b∉g.own:=hI.disj i l y g hy' hg hi
  exact(hI.obj i x y hx hy').keep hE (fun b hb=>hw b (hI.own i y hy' b hb).2 (hd b hb)) (fun b hb k hk=>hΦn b k hk (hI.own i y hy' b hb).2 (hd b hb))
 ·rcases set_get hi with⟨rfl,rfl,_⟩|⟨hi',hi1⟩<;>rcases set_get hj with⟨rfl,rfl,_⟩|⟨hj',hj1⟩
  ·exact absurd rfl hij
  ·intro hm
   rcases(hown b hb).1 with h1|h1
   ·exact hI.disj i j g gj hg hj1 hij b h1 hm
   have:=(hI.own j gj hj1 b hm).2
   omega
  ·intro hm
   rcases(hown b hm).1 with h1|h1
   ·exact hI.disj i j gi g hi1 hg hij b hb h1
   have:=(hI.own i gi hi1 b hb).2
   omega
  exact hI.disj i j gi gj hi1 hj1 hij b hb
 ·rcases set_get hx with⟨rfl,rfl,_⟩|⟨hi,hx'⟩
  ·refine⟨?_,(hown b hb).2⟩
   rcases(hown b hb).1 with h1|h1
   ·exact(hI.own i g hg b h1).1
   exact Nat.le_trans hI.gn h1
  exact⟨(hI.own i x hx' b hb).1,Nat.lt_of_lt_of_le (hI.own i x hx' b hb).2 hs⟩
 rcases set_get hx with⟨rfl,rfl,_⟩|⟨hi,hx'⟩
 ·rcases(hown b hb).1 with h1|h1
  ·exact .inr ⟨i,g,hg,h1⟩
  exact .inl h1
 exact .inr ⟨i,x,hx',hb⟩
end
end Go.Abs
