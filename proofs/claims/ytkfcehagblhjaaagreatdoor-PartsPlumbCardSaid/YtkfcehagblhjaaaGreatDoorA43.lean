import Derived.Test.YtkfcehagblhjaaaGreatDoorA13
set_option linter.unusedVariables false
set_option linter.unusedSimpArgs false
set_option linter.defProp false
namespace Go.Abs
open Go.RowKit
section
variable {E:Env}{γ γ':List Gh}{H H':List AObj}{Φ Φ':Nat→Nat→Prop}{w w':World}
theorem Ok.of(hI:OInv E γ H Φ w)(S:Nat→Prop)(hlen:γ'.length=H'.length)(hle:γ.length≤γ'.length)(hnew:∀i,γ.length≤i→S i)
 (same:∀i,¬ S i→γ'[i]?=γ[i]?∧H'[i]?=H[i]?)
 (T:Nat→Prop) (hT:∀b,T b↔∃ (i:Nat) (g:Gh),S i∧γ[i]?=some g∧b∈g.own)
 (hw:∀b,b<w.heap.size→¬ T b→w'.heap[b]?=w.heap[b]?) (hs:w.heap.size≤w'.heap.size) (hos:w'.os=w.os) (htp:w'.tape=w.tape) (hout:w'.output=w.output)
 (hΦ:∀b k,Φ b k→Φ' b k) (hΦn:∀b k,Φ' b k→b<w.heap.size→¬ T b→Φ b k) (hΦl:∀b k,Φ' b k→b<w'.heap.size)
 (hcell:∀b k,Φ b k→T b→w'.cell? ⟨b,k,none⟩=w.cell? ⟨b,k,none⟩)
 (hown:∀ (i:Nat) g,S i→γ'[i]?=some g→∀b∈g.own,(T b∨w.heap.size≤b)∧b<w'.heap.size)
 (hdisj:∀ (i j:Nat) gi gj,S i→S j→γ'[i]?=some gi→γ'[j]?=some gj→i≠j→∀b∈gi.own,b∉gj.own)
 (hgv:∀ (i:Nat) v,S i→gv γ i=some v→gv γ' i=some v∨∃A n c,v=.slice A n c)
 (hrow:∀ (i:Nat) e sz n,S i→rowAt H i=some (e,sz,n)→∃n',rowAt H' i=some (e,sz,n')∧n≤n'∧(n=n'→gv γ' i=gv γ i))
 (hO:Evo γ H Φ w γ' H' Φ' w'→∀ (i:Nat) o g,S i→H'[i]?=some o→γ'[i]?=some g→ObjRel E γ' H' Φ' w' o g):Ok E γ H Φ w γ' H' Φ' w':=by
 have out:∀ (i:Nat) g,¬ S i→γ[i]?=some g→∀b∈g.own,¬ T b:=by
  intro i g hi hg b hb ht
  obtain⟨j,gj,hj,hgj,hbj⟩:=(hT b).1 ht
  exact hI.disj i j g gj hg hgj (fun e=>hi (by rw[e];exact hj)) b hb hbj
 have old:∀b,T b→E.gN≤b∧b<w.heap.size:=by
  intro b ht
  obtain⟨j,gj,hj,hgj,hbj⟩:=(hT b).1 ht
  exact hI.own j gj hgj b hbj
 have hE:Evo γ H Φ w γ' H' Φ' w':=by
  refine⟨hΦ,fun b k h=>?_,fun i v h=>?_,fun i e sz n h=>?_⟩
  ·by_cases hb:T b
   ·exact hcell b k h hb
   exact cell_of_heap (hw b (hI.phi b k h) hb)
  ·by_cases hi:S i
   ·exact hgv i v hi h
   refine .inl ?_
   unfold gv at h ⊢
   rw[(same i hi).1]
   exact h
  by_cases hi:S i
  ·exact hrow i e sz n hi h
  refine⟨n,?_,Nat.le_refl _,fun _=>?_⟩
  ·unfold rowAt at h ⊢
   rw[(same i hi).2]
   exact h
  unfold gv
  rw[(same i hi).1]
 refine⟨⟨hlen,fun i o g ho hg=>?_,fun i j gi gj hi hj hij b hb hb'=>?_,fun i g hg b hb=>?_,hΦl,E.hG w w' hI.gi (fun b hb=>hw b (Nat.lt_of_lt_of_le hb hI.gn) (fun ht=>by have:=(old b ht).1;omega)),Nat.le_trans hI.gn hs⟩,hE,
  ⟨hos,htp,hout,hs,fun b hb hn=>hw b hb (fun ht=>?_),fun b k h hb hn=>hΦn b k h hb (fun ht=>?_),fun i g hg b hb=>?_⟩⟩
 ·by_cases hi:S i
  ·exact hO hE i o g hi ho hg
  obtain⟨e1,e2⟩:=same i hi
  rw[e1]at hg
  rw[e2]at ho
  have hn:=out i g hi hg
  exact(hI.obj i o g ho hg).keep hE (fun b hb=>hw b (hI.own i g hg b hb).2 (hn b hb)) (fun b hb k hk=>hΦn b k hk (hI.own i g hg b hb).2 (hn b hb))
 ·by_cases hi':S i<;>by_cases hj':S j
  ·exact hdisj i j gi gj hi' hj' hi hj hij b hb hb'
  ·rw[(same j hj').1]at hj
   rcases(hown i gi hi' hi b hb).1 with h|h
   ·exact out j gj hj' hj b hb' h
   have:=(hI.own j gj hj b hb').2
   omega
  ·rw[(same i hi').1]at hi
   rcases(hown j gj hj' hj b hb').1 with h|h
   ·exact out i gi hi' hi b hb h
   have:=(hI.own i gi hi b hb).2
   omega
  rw[(same i hi').1]at hi
  rw[(same j hj').1]at hj
  exact hI.disj i j gi gj hi hj hij b hb hb'
 ·by_cases hi:S i
  ·obtain⟨h1,h2⟩:=hown i g hi hg b hb
   refine⟨?_,h2⟩
   rcases h1 with h|h
   ·exact(old b h).1
   exact Nat.le_trans hI.gn h
  rw[(same i hi).1]at hg
  exact⟨(hI.own i g hg b hb).1,Nat.lt_of_lt_of_le (hI.own i g hg b hb).2 hs⟩
 ·obtain⟨j,gj,_,hgj,hbj⟩:=(hT b).1 ht
  exact hn j gj hgj hbj
 ·obtain⟨j,gj,_,hgj,hbj⟩:=(hT b).1 ht
  exact hn j gj hgj hbj
 by_cases hi:S i
 ·rcases(hown i g hi hg b hb).1 with h|h
  ·obtain⟨j,gj,_,hgj,hbj⟩:=(hT b).1 h
   exact .inr ⟨j,gj,hgj,hbj⟩
  exact .inl h
 rw[(same i hi).1]at hg
 exact .inr ⟨i,g,hg,hb⟩
theorem run_storeVar2{t:TypeId}{i:TypeInfo}(hi:E.P.info? t=some i)(b o:Nat)(T:TypeId)(cur:Array Value)(hb:w.heap[b]?=some (.cells cur T (0,0)))(v:Value)(hv:v.cells.size=i.size)
 (h1:∀u∈v.cells.toList,u.oneCell'=true) (hfit:o+v.cells.size≤cur.size):
 (Instr.storeAt t (.pointer (some ⟨b,o,none⟩)) v).run E.P w=.ok () (w.setRow b (cur.toList.take o++v.cells.toList++cur.toList.drop (o+v.cells.size)).toArray):=by
 have hst:=run_storeCells_at E.P b o T v.cells.toList 0 cur w hb (by simpa using hfit) h1
 simp only[Nat.add_zero,Array.length_toList]at hst
 unfold Instr.storeAt storeVar
 simp only[bind,Sem.run_bind',Instr.sureAddr,pure,Sem.run_pure',Result.andThen_ok,run_sizeOf hi,hv,ne_eq,not_true_eq_false,if_false]
 rw[hst]
 rw[←hv]
theorem setRow_same2(b c:Nat)(cs:Array Value)(h:c≠b):(w.setRow b cs).heap[c]?=w.heap[c]?:=setRow_other w b c cs h
def putVs(cells:List Value)(k:Nat)(vs:List Value):List Value:=cells.take k++vs++cells.drop (k+vs.length)
theorem putVs_length{cells:List Value}{k:Nat}{vs:List Value}(h:k+vs.length≤cells.length):(putVs cells k vs).length=cells.length:=by
 unfold putVs
 simp only[List.length_append,List.length_take,List.length_drop]
 omega
theorem putVs_get{cells:List Value}{k:Nat}{vs:List Value}(h:k+vs.length≤cells.length)(i:Nat):(putVs cells k vs)[i]?=if k≤i∧i<k+vs.length then vs[i-k]? else cells[i]?:=by
 unfold putVs
 have ht:(cells.take k).length=k:=by rw[List.length_take];omega
 by_cases h1:i<k
 ·rw[if_neg (by omega),List.append_assoc,List.getElem?_append_left (by omega),List.getElem?_take,if_pos h1]
 rw[List.append_assoc,List.getElem?_append_right (by omega),ht]
 by_cases h2:i<k+vs.length
 ·rw[if_pos ⟨by omega,h2⟩,List.getElem?_append_left (by omega)]
 rw[if_neg (by omega),List.getElem?_append_right (by omega),List.getElem?_drop]
 congr 1
 omega
theorem row_store{ty e:TypeId}{i:TypeInfo}{sz n j o b cap:Nat}{gv v:Value}{cells:List Value}(hi:E.P.info? ty=some i)(hown:w.ownsRow 0 e sz gv n cells)(hgv:gv=.slice (some ⟨b,0,none⟩) n cap)
 (hj:j<n) (hfit:o+i.size≤sz) (hv:v.cells.size=i.size) (h1:∀u∈v.cells.toList,u.oneCell'=true):
 ∃cs:Array Value,(Instr.storeAt ty (.pointer (some ⟨b,j * sz+o,none⟩)) v).run E.P w=.ok () (w.setRow b cs)∧(w.setRow b cs).ownsRow 0 e sz gv n (putVs cells (j * sz+o) v.cells.toList)∧j * sz+o+v.cells.toList.length≤cells.length:=by
 have hmul:j * sz+sz≤n * sz:=by
  have:=Nat.mul_le_mul_right sz (show j+1≤n from hj)
  rw[Nat.succ_mul]at this
  exact this
 have hcl:=hown.1
 rcases hown.2 with⟨hnil,hz⟩|⟨b',cap',cur,hv',_,hheap,hnc,hcm,hcs,htake⟩
 ·omega
 have hbb:b'=b:=by
  rw[hv']at hgv
  injection hgv with h1 h2 h3
  injection h1 with h1
  injection h1
 subst hbb
 have hfc:j * sz+o+v.cells.size≤cur.size:=by
  rw[hv,hcs]
  have:=Nat.mul_le_mul_right sz hnc
  omega
 have hrun:=run_storeVar2 (E:=E) (w:=w) hi b' (j * sz+o) e cur hheap v hv h1 hfc
 have hfl:j * sz+o+v.cells.toList.length≤cells.length:=by
  rw[Array.length_toList,hv,hcl]
  omega
 refine⟨_,hrun,?_,hfl⟩
 have hcur:(cur.toList.take (j * sz+o)++v.cells.toList++cur.toList.drop (j * sz+o+v.cells.size))=putVs cur.toList (j * sz+o) v.cells.toList:=by
  unfold putVs
  rw[Array.length_toList (xs:=v.cells)]
 have hpl:(putVs cur.toList (j * sz+o) v.cells.toList).length=cur.toList.length:=putVs_length (by rw[Array.length_toList,Array.length_toList];exact hfc)
 rw[hcur]
 have hheap':=setRow_heap w b' cur (putVs cur.toList (j * sz+o) v.cells.toList).toArray e (0,0) hheap
 refine⟨by rw[putVs_length hfl,hcl],.inr ⟨b',cap',_,hv',Nat.zero_le _,hheap',hnc,hcm,by rw[List.size_toArray,hpl,Array.length_toList,hcs],?_⟩⟩
 refine List.ext_getElem? fun k=>?_
 rw[putVs_get hfl k,List.getElem?_take]
 show(if k<n * sz then(putVs cur.toList (j * sz+o) v.cells.toList)[k]? else none)=_
 rw[putVs_get (by rw[Array.length_toList,Array.length_toList];exact hfc) k]
 by_cases hk:k<n * sz
 ·rw[if_pos hk]
  by_cases hin:j * sz+o≤k∧k<j * sz+o+v.cells.toList.length
  ·rw[if_pos hin,if_pos hin]
  rw[if_neg hin,if_neg hin,←htake,List.getElem?_take,if_pos hk]
 rw[if_neg hk,if_neg (by rw[Array.length_toList,hv];omega),List.getElem?_eq_none (by omega)]
theorem flat_set{sz:Nat}{xs:List PV}(hsz:∀x∈xs,x.cells.length=sz){j:Nat}{y y':PV}(hy:xs[j]?=some y)(hy':y'.cells.length=sz)(h0:0<sz)(k:Nat):
 (flat (xs.set j y'))[k]?=if k / sz=j then y'.cells[k % sz]? else(flat xs)[k]?:=by
 have hlt:j<xs.length:=(List.getElem?_eq_some_iff.1 hy).1
 have hxs':∀z∈xs.set j y',z.cells.length=sz:=fun z hz=>by
  rcases List.mem_or_eq_of_mem_set hz with hz|rfl
  ·exact hsz z hz
  exact hy'
 have hmod:k % sz<sz:=Nat.mod_lt _ h0
 have hkd:k / sz * sz+k % sz=k:=by rw[Nat.mul_comm];exact Nat.div_add_mod k sz
 by_cases hk:k<xs.length * sz
 ·have hq1:k / sz<xs.length:=Nat.div_lt_of_lt_mul (by rw[Nat.mul_comm];exact hk)
  by_cases hkj:k / sz=j
  ·rw[if_pos hkj]
   have:=flat_at hxs' j (k % sz) y' (by rw[List.getElem?_set_self hlt]) hmod
   rw[←hkj,hkd]at this
   rw[hkj]at this
   exact this
  rw[if_neg hkj]
  have hz:xs[k / sz]?=some xs[k / sz]:=List.getElem?_eq_getElem hq1
  have h1:=flat_at hxs' (k / sz) (k % sz) _ (by rw[List.getElem?_set_ne (fun e=>hkj e.symm)];exact hz) hmod
  have h2:=flat_at hsz (k / sz) (k % sz) _ hz hmod
  rw[hkd]at h1 h2
  rw[h1,h2]
 have hq:¬ k / sz=j:=by
  intro e
  have h3:j * sz≤k:=by rw[←e];exact Nat.div_mul_le_self k sz
  have h4:xs.length * sz≤k:=by omega
  have h5:xs.length≤k / sz:=(Nat.le_div_iff_mul_le h0).2 h4
  omega
 rw[if_neg hq,List.getElem?_eq_none (by rw[flat_length hxs'];simp;omega),List.getElem?_eq_none (by rw[flat_length hsz];omega)]
def storeTree(ti:TI)(H:List AObj)(l n i o:Nat)(e:TypeId)(sz off:Nat)(e2:TypeId)(sz2 m:Nat)(xs:List PV)(x:AV):Option (List AObj):=
 match x with
 | .vec l2 n2=>match H[l2]?,xs[i]? with
   | some (.row e' sz' ys false),some (.agg cs)=>if l≠l2∧n=xs.length∧i=m∧o=off∧ti.size=1∧n2=ys.length∧e'=e2∧sz'=sz2 then
      some ((H.set l (.tree e sz off e2 sz2 (m+1) (xs.set i (.agg (cs.set off (.slice ys)))))).set l2 (.moved e2 sz2 n2))
     else none
   | _,_=>none
 | _=>none
theorem mul_sz_add{j sz o:Nat}(h:o<sz):(j * sz+o) / sz=j∧(j * sz+o) % sz=o:=by
 have h0:0<sz:=by omega
 constructor
 ·exact Nat.div_eq_of_lt_le (by omega) (by rw[Nat.succ_mul];omega)
 rw[Nat.mul_comm,Nat.mul_add_mod,Nat.mod_eq_of_lt h]
theorem storeTree_sound(hI:OInv E γ H Φ w){ty:TypeId}{ti:TI}(hT:TOne E.P ty ti){a v:Value}{l n i o:Nat}{e:TypeId}{sz off:Nat}{e2:TypeId}{sz2 m:Nat}{xs:List PV}{x:AV}
 (hH:H[l]?=some (.tree e sz off e2 sz2 m xs)) (ha:ARel γ H Φ w a (.vptr l n i o)) (hx:ARel γ H Φ w v x) (h:storeTree ti H l n i o e sz off e2 sz2 m xs x=some H'):
 ∃w',(Instr.storeAt ty a v).run E.P w=.ok () w'∧∃γ' Φ',Ok E γ H Φ w γ' H' Φ' w':=by
 unfold storeTree at h
 split at h
 ·rename_i l2 n2
  split at h
  ·rename_i e' sz' ys cs hH2 hy
   split at h
   ·rename_i hc
    obtain⟨hne,rfl,rfl,rfl,hs1,rfl,rfl,rfl⟩:=hc
    simp only[Option.some.injEq]at h
    subst h
    obtain⟨inf,d,hi,his,_⟩:=hT.info
    obtain⟨g,hg,hO⟩:=hI.gh hH
    obtain⟨g2,hg2,hR2⟩:=hI.gh hH2
    rw[objRel_row]at hR2
    obtain⟨cells,gs,hown,hcl,hsz,h1,h0,hoff,hnΦ,hgl,hm,hgo,hnd,hrep,hin⟩:=hO
    have hlt:i<xs.length:=(List.getElem?_eq_some_iff.1 hy).1
    have hcs:cs.length=sz:=hsz _ (List.mem_of_getElem? hy)
    have hadd:∃b cap,a=.pointer (some ⟨b,i * sz+o,none⟩)∧g.v=.slice (some ⟨b,0,none⟩) xs.length cap:=by
     cases ha with
     | vptr b oa _ _ _ _ e0 sz0 len0 hrow hn0 hcur=>
       have hre:=rowAt_tree hH
       rw[hrow]at hre
       injection hre with hre
       injection hre with _ hre
       injection hre with hr2 hr3
       obtain⟨cap,hgv,hoa⟩:=hcur hr3
       simp only[gv,hg,Option.map_some,Option.some.injEq]at hgv
       exact⟨b,cap,by rw[hoa,hr2],hgv⟩
    obtain⟨b,cap,rfl,hgb⟩:=hadd
    have hval:g2.v=v∧v.cells=#[v]∧v.oneCell'=true:=by
     cases hx with
     | vec A _ _ cap2 e0 sz0 len0 hrow hn0 hA hcur=>
       have hre:=rowAt_row hH2
       rw[hrow]at hre
       injection hre with hre
       injection hre with _ hre
       injection hre with _ hr3
       have hgv:=hcur hr3
       simp only[gv,hg2,Option.map_some,Option.some.injEq]at hgv
       exact⟨hgv,rfl,rfl⟩
    obtain⟨hgv2,hvc,hv1⟩:=hval
    have hvl:v.cells.toList=[v]:=by rw[hvc]
    obtain⟨cur',hrun,hown',hfit⟩:=row_store (E:=E) (j:=i) (o:=o) (v:=v) hi hown hgb hlt (by omega) (by rw[hvc,his,hs1];rfl) (fun u hu=>by rw[hvl]at hu;simp at hu;rw[hu];exact hv1)
    rw[hvl]at hown' hfit
    refine⟨_,hrun,(γ.set l ⟨g.v,g.own++g2.own⟩).set l2 ⟨g2.v,[]⟩,Φ,?_⟩
    have hlγ:l<γ.length:=(List.getElem?_eq_some_iff.1 hg).1
    have hl2γ:l2<γ.length:=(List.getElem?_eq_some_iff.1 hg2).1
    have hlH:l<H.length:=(List.getElem?_eq_some_iff.1 hH).1
    have hl2H:l2<H.length:=(List.getElem?_eq_some_iff.1 hH2).1
    have hb:b∈g.own:=by rw[hgo,hgb];simp[Value.ownBlock]
    have G1:((γ.set l ⟨g.v,g.own++g2.own⟩).set l2 ⟨g2.v,[]⟩)[l]?=some ⟨g.v,g.own++g2.own⟩:=by
     rw[List.getElem?_set_ne (Ne.symm hne),List.getElem?_set_self hlγ]
    have G2:((γ.set l ⟨g.v,g.own++g2.own⟩).set l2 ⟨g2.v,[]⟩)[l2]?=some ⟨g2.v,[]⟩:=by
     rw[List.getElem?_set_self (by simpa using hl2γ)]
    have O1:((H.set l (.tree e sz o e' sz' (i+1) (xs.set i (.agg (cs.set o (.slice ys)))))).set l2 (.moved e' sz' ys.length))[l]?=some (.tree e sz o e' sz' (i+1) (xs.set i (.agg (cs.set o (.slice ys))))):=by
     rw[List.getElem?_set_ne (Ne.symm hne),List.getElem?_set_self hlH]
    have O2:((H.set l (.tree e sz o e' sz' (i+1) (xs.set i (.agg (cs.set o (.slice ys)))))).set l2 (.moved e' sz' ys.length))[l2]?=some (.moved e' sz' ys.length):=by
     rw[List.getElem?_set_self (by simpa using hl2H)]
    have hd12:∀c∈g.own,c∉g2.own:=hI.disj l l2 g g2 hg hg2 hne
    have hnΦ2:∀c∈g2.own,∀k,¬ Φ c k:=by
     intro c hc k hk
     obtain⟨_,_,_,_,_,_,ho2,_,hp⟩:=hR2
     rw[ho2]at hc
     have:=(hp c (by simpa using hc) k).1 hk
     cases this.1
    have hnΦ1:∀c∈g.own,∀k,¬ Φ c k:=by
     intro c hc k hk
     rw[hgo]at hc
     rcases List.mem_append.1 hc with hc|hc
     ·exact hnΦ c (by simpa using hc) k hk
     obtain⟨gi,hgi,hci⟩:=List.mem_flatMap.1 hc
     obtain⟨q,hq,hqi⟩:=List.getElem_of_mem hgi
     obtain⟨_,_,_,_,_,_,_,_,_,ho2,_,hp⟩:=hin q gi (by rw[List.getElem?_eq_getElem hq,hqi])
     rw[ho2]at hci
     have:=(hp c (by simpa using hci) k).1 hk
     cases this.1
    refine Ok.of hI (fun q=>q=l∨q=l2∨γ.length≤q) (by simp[hI.len]) (by simp) (fun q hq=>.inr (.inr hq)) (fun q hq=>?_) (fun c=>c∈g.own∨c∈g2.own) (fun c=>⟨fun hc=>?_,fun hc=>?_⟩)
     (fun c _ hc=>setRow_same2 b c _ (fun e=>hc (.inl (by rw[e];exact hb)))) (by simp) rfl rfl rfl (fun _ _ h=>h) (fun _ _ h _ _=>h) (fun c k h=>by simpa using hI.phi c k h) (fun c k hΦ hc=>?_) (fun q gq hq hgq c hc=>?_) (fun p q gp gq hp hq hgp hgq hpq c hc=>?_) (fun q u hq hu=>?_) (fun q e1 sz1 n1 hq hr=>?_) (fun hE q oq gq hq hoq hgq=>?_)
    ·simp only[not_or]at hq
     exact⟨by rw[List.getElem?_set_ne (Ne.symm hq.2.1),List.getElem?_set_ne (Ne.symm hq.1)],by rw[List.getElem?_set_ne (Ne.symm hq.2.1),List.getElem?_set_ne (Ne.symm hq.1)]⟩
    ·rcases hc with hc|hc
     ·exact⟨l,g,.inl rfl,hg,hc⟩
     exact⟨l2,g2,.inr (.inl rfl),hg2,hc⟩
    ·obtain⟨q,gq,hq,hgq,hcq⟩:=hc
     rcases hq with rfl|rfl|hq
     ·rw[hg]at hgq;injection hgq with hgq;subst hgq;exact .inl hcq
     ·rw[hg2]at hgq;injection hgq with hgq;subst hgq;exact .inr hcq
     rw[List.getElem?_eq_none hq]at hgq;cases hgq
    ·rcases hc with hc|hc
     ·exact absurd hΦ (hnΦ1 c hc k)
     exact absurd hΦ (hnΦ2 c hc k)
    ·rcases hq with rfl|rfl|hq
     ·rw[G1]at hgq
      injection hgq with hgq
      subst hgq
      rcases List.mem_append.1 hc with hc|hc
      ·exact⟨.inl (.inl hc),by simpa using(hI.own q g hg c hc).2⟩
      exact⟨.inl (.inr hc),by simpa using(hI.own l2 g2 hg2 c hc).2⟩
     ·rw[G2]at hgq
      injection hgq with hgq
      subst hgq
      cases hc
     rw[List.getElem?_eq_none (by simpa using hq)]at hgq;cases hgq
    ·rcases hp with rfl|rfl|hp
     ·rcases hq with rfl|rfl|hq
      ·exact absurd rfl hpq
      ·rw[G2]at hgq;injection hgq with hgq;subst hgq;exact fun h=>by cases h
      rw[List.getElem?_eq_none (by simpa using hq)]at hgq;cases hgq
     ·rw[G2]at hgp;injection hgp with hgp;subst hgp;cases hc
     rw[List.getElem?_eq_none (by simpa using hp)]at hgp;cases hgp
    ·refine .inl ?_
     rcases hq with rfl|rfl|hq
     ·unfold gv at hu ⊢;rw[G1];rw[hg]at hu;exact hu
     ·unfold gv at hu ⊢;rw[G2];rw[hg2]at hu;exact hu
     unfold gv at hu;rw[List.getElem?_eq_none hq]at hu;cases hu
    ·rcases hq with rfl|rfl|hq
     ·have hr0:=rowAt_tree hH
      rw[hr0]at hr
      injection hr with hr
      injection hr with hr1 hr
      injection hr with hr2 hr3
      subst hr1 hr2 hr3
      refine⟨xs.length,by rw[rowAt_tree O1];simp,Nat.le_refl _,fun _=>?_⟩
      unfold gv;rw[G1,hg];rfl
     ·have hr0:=rowAt_row hH2
      rw[hr0]at hr
      injection hr with hr
      injection hr with hr1 hr
      injection hr with hr2 hr3
      subst hr1 hr2 hr3
      refine⟨ys.length,by unfold rowAt;rw[O2];rfl,Nat.le_refl _,fun _=>?_⟩
      unfold gv;rw[G2,hg2];rfl
     have:=rowAt_lt hr
     have:=hI.len
     omega
    rcases hq with rfl|rfl|hq
    ·rw[O1]at hoq
     injection hoq with hoq
     subst hoq
     rw[G1]at hgq
     injection hgq with hgq
     subst hgq
     have hyl:(PV.agg (cs.set o (.slice ys))).cells.length=sz:=by simp only[PV.cells];rw[List.length_set];exact hcs
     have hfs:=fun k=>flat_set hsz hy hyl h0 k
     have hsz':∀z∈xs.set i (.agg (cs.set o (.slice ys))),z.cells.length=sz:=fun z hz=>by
      rcases List.mem_or_eq_of_mem_set hz with hz|rfl
      ·exact hsz z hz
      exact hyl
     have hmul:i * sz+sz≤xs.length * sz:=by
      have:=Nat.mul_le_mul_right sz (show i+1≤xs.length from hlt)
      rw[Nat.succ_mul]at this
      exact this
     have hfl:=flat_length hsz
     obtain⟨hdv,hmd⟩:=mul_sz_add (j:=i) hoff
     have hput:=fun k=>putVs_get hfit k
     have hpl:=putVs_length hfit
     have hold:∀ (q:Nat) gi,gs[q]?=some gi→∃ys',(flat xs)[q * sz+o]?=some (.slice ys')∧cells[q * sz+o]?=some gi.v∧RowRel Φ w e' sz' ys' false gi:=hin
     have hgi_own:∀ (q:Nat) gi,gs[q]?=some gi→∀c∈gi.own,c∈g.own∧c≠b:=by
      intro q gi hq c hc
      have hcg:c∈gs.flatMap Gh.own:=List.mem_flatMap.2 ⟨gi,List.mem_of_getElem? hq,hc⟩
      refine⟨by rw[hgo];exact List.mem_append_right _ hcg,fun e=>?_⟩
      rw[hgo,hgb]at hnd
      have:=(List.nodup_cons.1 (show(b::gs.flatMap Gh.own).Nodup from hnd)).1
      exact this (by rw[←e];exact hcg)
     have hg2b:∀c∈g2.own,c≠b:=fun c hc e=>hd12 b hb (by rw[←e];exact hc)
     have keepR:∀ {ys':List PV} {gi:Gh},RowRel Φ w e' sz' ys' false gi→(∀c∈gi.own,c≠b)→RowRel Φ (w.setRow b cur') e' sz' ys' false gi:=fun hR hc=>
      hR.keep (fun _ _ h=>h) hE.cell (fun c hcm=>setRow_same2 b c _ (hc c hcm)) (fun _ _ _ h=>h)
     refine⟨putVs cells (i * sz+o) [v],gs++[g2],by rw[List.length_set];exact hown',?_,hsz',fun c hc=>?_,h0,hoff,fun c hc k hk=>hnΦ c hc k hk,by simp[hgl],by rw[List.length_set];exact hlt,?_,?_,fun k u c hu hc hk=>?_,fun q gi hq=>?_⟩
     ·rw[hpl,hcl,hfl,flat_length hsz',List.length_set]
     ·obtain⟨k,hk,hkc⟩:=List.getElem_of_mem hc
      have hc':(flat (xs.set i (.agg (cs.set o (.slice ys)))))[k]?=some c:=by rw[List.getElem?_eq_getElem hk,hkc]
      rw[hfs k]at hc'
      split at hc'
      ·have hm':=List.mem_of_getElem? hc'
       simp only[PV.cells]at hm'
       rcases List.mem_or_eq_of_mem_set hm' with hm'|rfl
       ·exact h1 c (flat_mem (List.mem_of_getElem? hy) (by simpa only[PV.cells]using hm'))
       rfl
      exact h1 c (List.mem_of_getElem? hc')
     ·show g.own++g2.own=_
      rw[hgo,List.flatMap_append]
      simp
     ·show(g.own++g2.own).Nodup
      refine List.nodup_append.2 ⟨hnd,?_,fun c hc c' hc' e=>hd12 c hc (by rw[e];exact hc')⟩
      obtain⟨_,_,_,_,_,_,ho2,_⟩:=hR2
      rw[ho2]
      cases g2.v.ownBlock<;>simp
     ·have hne2:k≠i * sz+o:=by
       rintro rfl
       rcases hk with hk|hk
       ·exact hk hmd
       rw[Nat.succ_mul]at hk
       omega
      rw[hput k,if_neg (by simp;omega)]at hu
      rw[hfs k]at hc
      split at hc
      ·rename_i hki
       have hmod:k % sz≠o:=by
        intro e
        apply hne2
        have:=Nat.div_add_mod k sz
        rw[hki,e,Nat.mul_comm]at this
        exact this.symm
       simp only[PV.cells]at hc
       rw[List.getElem?_set_ne (Ne.symm hmod)]at hc
       have h3:=flat_at hsz i (k % sz) _ hy (Nat.mod_lt _ h0)
       rw[show i * sz+k % sz=k by have:=Nat.div_add_mod k sz;rw[hki,Nat.mul_comm]at this;exact this]at h3
       exact(hrep k u c hu (by rw[h3];exact hc) (.inl hmod)).mono (fun _ _ h=>h) hE.cell
      refine(hrep k u c hu hc ?_).mono (fun _ _ h=>h) hE.cell
      rcases hk with hk|hk
      ·exact .inl hk
      exact .inr (by rw[Nat.succ_mul]at hk;omega)
     by_cases hqi:q<gs.length
     ·rw[List.getElem?_append_left hqi]at hq
      obtain⟨ys',h3,h4,h5⟩:=hold q gi hq
      have hqn:q * sz+o≠i * sz+o:=by
       intro e
       have h6:=(mul_sz_add (j:=q) hoff).1
       rw[e,hdv]at h6
       omega
      refine⟨ys',?_,?_,keepR h5 fun c hc=>(hgi_own q gi hq c hc).2⟩
      ·rw[hfs,if_neg (by rw[(mul_sz_add (j:=q) hoff).1];omega)]
       exact h3
      rw[hput,if_neg (by simp;omega)]
      exact h4
     have hq':q=gs.length:=by
      have:=(List.getElem?_eq_some_iff.1 hq).1
      simp at this
      omega
     subst hq'
     rw[List.getElem?_append_right (Nat.le_refl _)]at hq
     simp only[Nat.sub_self,List.getElem?_cons_zero,Option.some.injEq]at hq
     subst hq
     rw[hgl]
     refine⟨ys,?_,?_,keepR hR2 hg2b⟩
     ·rw[hfs,if_pos hdv,hmd]
      simp only[PV.cells]
      rw[List.getElem?_set_self (by omega)]
     rw[hput,if_pos ⟨Nat.le_refl _,by simp⟩,hgv2]
     simp
    ·rw[O2]at hoq
     injection hoq with hoq
     subst hoq
     trivial
    rw[List.getElem?_eq_none (by simpa using hq)]at hgq;cases hgq
   cases h
  cases h
 cases h
def storeHole(ti:TI)(H:List AObj)(l n i o:Nat)(e:TypeId)(sz:Nat)(xs:List PV)(j off:Nat)(q:PV):Option (List AObj):=
 match xs[i]? with
 | some (.agg cs)=>if n=xs.length∧i=j∧o≤off∧off<o+ti.size∧q.cells.length=ti.size∧o+ti.size≤cs.length then some (H.set l (.row e sz (xs.set i (.agg (putCells cs o q.cells))) false))else none
 | _=>none
theorem agg_cells(cs:List PV):(PV.agg cs).cells=cs:=rfl
theorem putCells_get{cs ps:List PV}{o:Nat}(h:o+ps.length≤cs.length)(k:Nat):(putCells cs o ps)[k]?=if o≤k∧k<o+ps.length then ps[k-o]? else cs[k]?:=by
 unfold putCells
 have ht:(cs.take o).length=o:=by rw[List.length_take];omega
 by_cases h1:k<o
 ·rw[if_neg (by omega),List.append_assoc,List.getElem?_append_left (by omega),List.getElem?_take,if_pos h1]
 rw[List.append_assoc,List.getElem?_append_right (by omega),ht]
 by_cases h2:k<o+ps.length
 ·rw[if_pos ⟨by omega,h2⟩,List.getElem?_append_left (by omega)]
 rw[if_neg (by omega),List.getElem?_append_right (by omega),List.getElem?_drop]
 congr 1
 omega
theorem storeHole_sound(hI:OInv E γ H Φ w){ty:TypeId}{ti:TI}(hT:TOne E.P ty ti){a v:Value}{l n i o:Nat}{e:TypeId}{sz:Nat}{xs:List PV}{j off l2 n2:Nat}{q:PV}
 (hH:H[l]?=some (.hrow e sz xs j off l2 n2)) (ha:ARel γ H Φ w a (.vptr l n i o)) (hx:Rep Φ w v q) (h:storeHole ti H l n i o e sz xs j off q=some H'):
 ∃w',(Instr.storeAt ty a v).run E.P w=.ok () w'∧∃γ' Φ',Ok E γ H Φ w γ' H' Φ' w':=by
 unfold storeHole at h
 split at h
 ·rename_i cs hy
  split at h
  ·rename_i hc
   obtain⟨rfl,rfl,ho1,ho2,hql,hfit0⟩:=hc
   simp only[Option.some.injEq]at h
   subst h
   obtain⟨inf,d,hi,his,_⟩:=hT.info
   obtain⟨g,hg,hO⟩:=hI.gh hH
   obtain⟨cells,hown,hcl,hsz,h1,hgo,h0,hoff,hlt,hnΦ,hrep,hhole⟩:=hO
   have hcs:cs.length=sz:=hsz _ (List.mem_of_getElem? hy)
   have hadd:∃b cap,a=.pointer (some ⟨b,i * sz+o,none⟩)∧g.v=.slice (some ⟨b,0,none⟩) xs.length cap:=by
    cases ha with
    | vptr b oa _ _ _ _ e0 sz0 len0 hrow hn0 hcur=>
      have hre:=rowAt_hrow hH
      rw[hrow]at hre
      injection hre with hre
      injection hre with _ hre
      injection hre with hr2 hr3
      obtain⟨cap,hgv,hoa⟩:=hcur hr3
      simp only[gv,hg,Option.map_some,Option.some.injEq]at hgv
      exact⟨b,cap,by rw[hoa,hr2],hgv⟩
   obtain⟨b,cap,rfl,hgb⟩:=hadd
   obtain⟨qc1,qc2,qc3⟩:=rep_cells hx
   have hvs:v.cells.size=inf.size:=by rw[his,←hql,←qc1];simp
   have hvl:v.cells.toList.length=ti.size:=by rw[Array.length_toList,hvs,his]
   obtain⟨cur',hrun,hown',hfit⟩:=row_store (E:=E) (j:=i) (o:=o) (v:=v) hi hown hgb hlt (by omega) hvs (fun u hu=>by
    obtain⟨k,hk,hkc⟩:=List.getElem_of_mem hu
    have hkq:k<q.cells.length:=by rw[←qc1];exact hk
    exact(qc3 k u q.cells[k] (by rw[List.getElem?_eq_getElem hk,hkc]) (List.getElem?_eq_getElem hkq)).one (qc2 _ (List.getElem_mem _)))
   have hb:∀c,c∈g.own↔c=b:=fun c=>by rw[hgo,hgb];simp[Value.ownBlock]
   have hbn:∀k,¬ Φ b k:=hnΦ b (by rw[hgb];rfl)
   have hyl:(PV.agg (putCells cs o q.cells)).cells.length=sz:=by
    rw[agg_cells]
    simp only[putCells,List.length_append,List.length_take,List.length_drop]
    omega
   have hfs:=fun k=>flat_set hsz hy hyl h0 k
   have hsz':∀z∈xs.set i (.agg (putCells cs o q.cells)),z.cells.length=sz:=fun z hz=>by
    rcases List.mem_or_eq_of_mem_set hz with hz|rfl
    ·exact hsz z hz
    exact hyl
   have hfl:=flat_length hsz
   have hput:=fun k=>putVs_get hfit k
   have hpl:=putVs_length hfit
   have hpc:=fun k=>putCells_get (cs:=cs) (ps:=q.cells) (o:=o) (by omega) k
   refine⟨_,hrun,γ.set l g,Φ,hI.setObj (o':=.row e sz (xs.set i (.agg (putCells cs o q.cells))) false) (g':=g) hH hg (fun c _ hn'=>setRow_same2 b c _ (fun e=>hn' ((hb c).2 e))) (by simp) rfl rfl rfl (fun _ _ h=>h) (fun _ _ h _ _=>h) (fun c k h=>by simpa using hI.phi c k h)
    (fun c k hΦ hc=>absurd hΦ (by rw[(hb c).1 hc];exact hbn k)) (fun c hc=>⟨.inl hc,by simpa using(hI.own l g hg c hc).2⟩) (.inl rfl)
    (fun e1 sz1 n1 hr=>by
      simp only[rowLike,Option.some.injEq,Prod.mk.injEq]at hr
      obtain⟨rfl,rfl,rfl⟩:=hr
      exact⟨_,rfl,by simp,fun _=>rfl⟩) (fun hE=>?_)⟩
   refine⟨putVs cells (i * sz+o) v.cells.toList,by rw[List.length_set];exact hown',?_,fun k u c hu hc=>?_,hsz',fun c hc=>?_,hgo,h0,fun c hc k=>⟨fun hk=>?_,fun hf=>by cases hf⟩⟩
   ·rw[hpl,hcl,hfl,flat_length hsz',List.length_set]
   ·rw[hput k,hvl]at hu
    rw[hfs k]at hc
    have hkd:k / sz * sz+k % sz=k:=by rw[Nat.mul_comm];exact Nat.div_add_mod k sz
    have hmod:k % sz<sz:=Nat.mod_lt _ h0
    by_cases hki:k / sz=i
    ·rw[hki]at hkd
     rw[if_pos hki]at hc
     rw[agg_cells]at hc
     rw[hpc]at hc
     by_cases hin:o≤k % sz∧k % sz<o+q.cells.length
     ·rw[if_pos hin]at hc
      rw[if_pos (by omega)]at hu
      refine(qc3 (k % sz-o) u c ?_ hc).mono (fun _ _ h=>h) hE.cell
      rw[show k % sz-o=k-(i * sz+o)by omega]
      exact hu
     rw[if_neg hin]at hc
     rw[if_neg (by omega)]at hu
     have h3:=flat_at hsz i (k % sz) _ hy hmod
     rw[hkd]at h3
     exact(hrep k u c hu (by rw[h3];exact hc) (by omega)).mono (fun _ _ h=>h) hE.cell
    rw[if_neg hki]at hc
    have hno:¬ (i * sz+o≤k∧k<i * sz+o+ti.size):=by
     intro⟨a1,a2⟩
     exact hki (Nat.div_eq_of_lt_le (by omega) (by rw[Nat.succ_mul];omega))
    rw[if_neg hno]at hu
    exact(hrep k u c hu hc (fun e=>hki (by rw[e];exact(mul_sz_add hoff).1))).mono (fun _ _ h=>h) hE.cell
   ·obtain⟨k,hk,hkc⟩:=List.getElem_of_mem hc
    have hc':(flat (xs.set i (.agg (putCells cs o q.cells))))[k]?=some c:=by rw[List.getElem?_eq_getElem hk,hkc]
    rw[hfs k]at hc'
    split at hc'
    ·rw[agg_cells]at hc'
     rw[hpc]at hc'
     split at hc'
     ·exact qc2 c (List.mem_of_getElem? hc')
     exact h1 c (flat_mem (List.mem_of_getElem? hy) (by rw[agg_cells];exact List.mem_of_getElem? hc'))
    exact h1 c (List.mem_of_getElem? hc')
   exact absurd hk (hnΦ c hc k)
  cases h
 cases h
end
end Go.Abs
