import Derived.Test.YtkfcehagblhjaaaGreatDoorA13
import Derived.Lib.FrozenHead
import Derived.Test.YtkfcehagblhjaaaGreatDoorA16
import Derived.Tactics
set_option linter.unusedVariables false
set_option linter.unusedSimpArgs false
set_option linter.defProp false
namespace Go.Abs
open Go.RowKit
def eappendS(E:Env)(H:List AObj)(t1 t2:TypeId)(x y:AV):Option (AV×List AObj):=
 match E.T t1,E.T t2,y with
 | some ⟨.slice e,_,_,_⟩,some ⟨.str,_,_,_⟩,.pv (.str s)=>match E.T e with
   | some ⟨.int .u8,1,1,some [.int .u8 0]⟩=>match x with
     | .nils=>if s.length≤140737488355328∧s.isEmpty=false then some (.vec H.length s.length,H++[.brow e s])else if s.isEmpty=true then some (.nils,H)else none
     | .vec l n=>match H[l]? with
       | some (.brow e' b)=>if n=b.length∧e'=e∧b.length+s.length≤140737488355328 then some (.vec l (b.length+s.length),H.set l (.brow e (b++s)))else none
       | _=>none
     | _=>none
   | _=>none
 | _,_,_=>none
def qsdata(H:List AObj):AV→Option AV
 | .vec l n=>match H[l]? with
   | some (.brow _ s)=>if s.length=n∧s.isEmpty=false then some (.vptr l n 0 0)else none
   | _=>none
 | .nils=>some (.pv .nilp)
 | _=>none
def qustr(E:Env)(H:List AObj)(pt:TypeId):AV→AV→Option AV
 | .vptr l n 0 0,.pv (.int .i64 k)=>match E.T pt,H[l]? with
   | some ⟨.ptr e,_,_,_⟩,some (.brow e' s)=>match E.T e with
     | some ⟨.int .u8,1,1,_⟩=>if e=e'∧k=s.length∧n=s.length∧s.isEmpty=false then some (.pv (.str s))else none
     | _=>none
   | _,_=>none
 | .pv .nilp,.pv (.int .i64 0)=>some (.pv (.str []))
 | _,_=>none
def bcells(s:List UInt8):List Value:=s.map fun u=>Value.int .u8 u.toNat
section
variable {E:Env}{γ:List Gh}{H:List AObj}{Φ:Nat→Nat→Prop}{w:World}
theorem strCells_mk(s:List UInt8):Lib.strCells ⟨⟨s⟩⟩=bcells s:=rfl
theorem append_strF(t u ty e:TypeId)(i:TypeInfo)(ht:E.P.underlying t=some (.slice e))(hu:E.P.underlying u=some .string)(hi:E.P.info? e=some i)(hz:i.zero=some (.int .u8 0))(hsize:i.size=1)(hby:i.bytes=1)
 (v:Value) (n:Nat) (xs:List Value) (hown:w.ownsRowF 0 e 1 v n xs) (s:List UInt8) (hbytes:n+s.length≤140737488355328):
 ∃v' w',(Builtin.append_ #[t,u] ty #[v,.string ⟨⟨s⟩⟩]).run E.P w=.ok v' w'∧w'.ownsRowF 0 e 1 v' (n+s.length) (xs++bcells s)∧w.grownBy w' v.ownBlock∧(∀b,v'.ownBlock=some b→v.ownBlock=some b∨w.heap.size≤b)∧(s=[]→v'=v):=by
 have hss:(⟨⟨s⟩⟩:ByteArray).size=s.length:=rfl
 have hm:n+s.length≤maxLen:=by unfold maxLen;omega
 rcases hown.2 with⟨rfl,rfl⟩|⟨g,cap,cur,fz,rfl,hbg,hg,hfz,hnc,hcm,hcs,htake⟩
 ·obtain⟨v',w',h1,h2,h3,h4⟩:=Lib.run_append_own_stringF (P:=E.P) w w.heap.size t u ty e i ht hu hi hz hsize hby (.slice none 0 0) 0 xs ⟨hown.1,.inl ⟨rfl,rfl⟩⟩ ⟨⟨s⟩⟩ (by rw[hss];exact hm) (by rw[hss];exact hbytes) (Nat.le_refl _)
  rw[hss,strCells_mk]at h2
  refine⟨v',w',h1,⟨h2.1,h2.2.imp id fun⟨g,cap,cur,fz,hv,hb,r⟩=>⟨g,cap,cur,fz,hv,Nat.zero_le _,r⟩⟩,h3,fun b hb=>?_,fun hs=>h4.2 ⟨rfl,by rw[hss,hs];rfl⟩⟩
  rcases h2.2 with⟨hv,hn⟩|⟨g,cap,cur,fz,hv,hbase,_⟩
  ·rw[hv]at hb
   cases hb
  rw[hv]at hb
  simp only[Value.ownBlock,Option.some.injEq]at hb
  exact .inr (by omega)
 have hxl:xs.length=n:=by simpa using hown.1
 have hlen:(xs++bcells s).length=(n+s.length) * 1:=by simp[hxl,bcells]
 have hcs':cur.size=cap:=by simpa using hcs
 by_cases hroom:n+s.length≤cap
 ·have hr:=Lib.run_append_room_stringF (P:=E.P) w t u ty e i ht hu hi hsize g n cap cur fz hg (by simpa using hfz) ⟨⟨s⟩⟩ (by rw[hss];exact hroom) (by rw[hss];omega)
  rw[hss,strCells_mk]at hr
  refine⟨_,_,hr,⟨hlen,.inr ⟨g,cap,_,fz,rfl,hbg,setRow_heap w g cur _ e _ hg,by omega,hroom,hcm,?_,?_⟩⟩,⟨rfl,rfl,rfl,by simp,fun k _ hk=>setRow_other w g k _ (fun e=>hk (by simp[Value.ownBlock,e]))⟩,fun b hb=>.inl hb,fun hs=>by rw[hs];rfl⟩
  ·simp only[List.size_toArray,List.length_append,List.length_take,List.length_drop,Array.length_toList,bcells,List.length_map]
   omega
  have ht':cur.toList.take n=xs:=by simpa using htake
  rw[ht',←hlen]
  exact List.take_left
 have holds:∀j u,xs[j]?=some u→w.cell? ((⟨g,0,none⟩:Addr).add j)=some u:=hown.cells (g:=g) rfl
 have hr:=Lib.run_append_grow_string (P:=E.P) w t u ty e i (.int .u8 0) ht hu hi hz ⟨g,0,none⟩ n cap xs (by rw[hsize];simpa using hxl) holds ⟨⟨s⟩⟩ (by rw[hss];omega) (by rw[hss];omega) (by rw[hby,hss];exact growslice_fits (by omega) (by omega))
 have hge:=grownCap_ge w (n+s.length) cap e
 have hcm2:grownCap w (n+s.length) cap e≤maxLen:=grownCap_le_maxLen w (n+s.length) cap e hm
 rw[hss,strCells_mk]at hr
 refine⟨_,_,hr,⟨hlen,.inr ⟨w.heap.size,_,_,(0,0),rfl,Nat.zero_le _,heap_alloc_new w.drew _,Nat.zero_le _,hge,hcm2,?_,?_⟩⟩,⟨rfl,rfl,rfl,by simp,fun k hk _=>heap_alloc_old w.drew _ k hk⟩,fun b hb=>.inr (by simp only[Value.ownBlock,Option.some.injEq]at hb;omega),fun hs=>?_⟩
 ·have hz1:(Value.int IntKind.u8 0).cells.size=1:=rfl
  simp only[Array.size_append,List.size_toArray,size_zeroCells,hz1,hxl,bcells,List.length_map]
  omega
 ·simp only[Array.toList_append,List.append_assoc]
  rw[←List.append_assoc,←hlen]
  exact List.take_left
 rw[hs]at hroom
 simp only[List.length_nil]at hroom
 omega
theorem ownsRowF_slice{e:TypeId}{sz n:Nat}{v:Value}{cells:List Value}(h:w.ownsRowF 0 e sz v n cells):∃A c,v=.slice A n c∧(0<n→∃b,A=some ⟨b,0,none⟩):=by
 rcases h.2 with⟨rfl,rfl⟩|⟨g,cap,cur,fz,rfl,_⟩
 ·exact⟨none,0,rfl,fun h=>absurd h (by omega)⟩
 exact⟨_,_,rfl,fun _=>⟨g,rfl⟩⟩
theorem brow_vec{v:Value}{l n:Nat}{e:TypeId}{s:List UInt8}{g:Gh}(hx:ARel γ H Φ w v (.vec l n))(hH:H[l]?=some (.brow e s))(hg:γ[l]?=some g)(hn:n=s.length):v=g.v:=by
 cases hx with
 | vec A l n cap e0 sz0 len0 hrow hn' hA hcur=>
   unfold rowAt at hrow
   rw[hH]at hrow
   simp only[Option.bind_some,rowLike,Option.some.injEq,Prod.mk.injEq]at hrow
   have:=hcur (by omega)
   simp only[gv,hg,Option.map_some,Option.some.injEq]at this
   exact this.symm
theorem u8_info{e:TypeId}{z:Option (List PV)}(hT:E.T e=some ⟨.int .u8,1,1,z⟩):∃i,E.P.info? e=some i∧i.size=1∧i.bytes=1∧(z=some [.int .u8 0]→i.zero=some (.int .u8 0)):=by
 obtain⟨i,d,hi,hs,hb,_,_,hz⟩:=(E.hT _ _ hT).info
 refine⟨i,hi,hs,hb,fun hzz=>?_⟩
 subst hzz
 obtain⟨zv,hzv,hl,_,hc,_,h1⟩:=hz _ rfl
 have hcs:=h1 (fun fs=>by simp)
 have h0:=hc 0 zv (.int .u8 0) (by rw[hcs];rfl) rfl
 have hr:=h0.2.1 (fun _ _=>False) default
 rw[hzv]
 generalize zv=x at hr
 cases hr
 rfl
theorem eappendS_sound(hI:OInv E γ H Φ w){t1 t2 t:TypeId}{v u:Value}{x y r:AV}{H':List AObj}(hx:ARel γ H Φ w v x)(hy:ARel γ H Φ w u y)(h:eappendS E H t1 t2 x y=some (r,H')):
 ∃v' w',(Builtin.append_ #[t1,t2] t #[v,u]).run E.P w=.ok v' w'∧Steps1 E γ H Φ w r H' v' w':=by
 unfold eappendS at h
 split at h
 ·rename_i e _ _ _ _ _ _ s hT1 hT2
  obtain⟨d1,hd1,hk1⟩:=(E.hT _ _ hT1).und
  obtain⟨d2,hd2,hk2⟩:=(E.hT _ _ hT2).und
  have hd1:=tk_slice hk1▸hd1
  have hd2:=tk_str hk2▸hd2
  have hu:=arel_pv hy
  cases hu
  split at h
  ·rename_i hTe
   obtain⟨i,hi,hs,hb,hz⟩:=u8_info hTe
   split at h
   ·cases hx
    split at h
    ·rename_i hc
     simp only[Option.some.injEq,Prod.mk.injEq]at h
     obtain⟨rfl,rfl⟩:=h
     obtain⟨v',w',hrun,hown,hG,hnew,_⟩:=append_strF (E:=E) (w:=w) t1 t2 t e i hd1 hd2 hi (hz rfl) hs hb (.slice none 0 0) 0 [] ⟨rfl,.inl ⟨rfl,rfl⟩⟩ s (by omega)
     rw[Nat.zero_add,List.nil_append]at hown
     refine⟨v',w',hrun,?_⟩
     have hblk:∀b,v'.ownBlock=some b→w.heap.size≤b∧b<w'.heap.size:=by
      intro b hb
      refine⟨(hnew b hb).elim (fun h=>by cases h) id,?_⟩
      rcases hown.2 with⟨hv,_⟩|⟨g,cap,cur,fz,hv,_,hg,_⟩
      ·rw[hv]at hb
       cases hb
      rw[hv]at hb
      simp only[Value.ownBlock,Option.some.injEq]at hb
      exact hb▸(Array.getElem?_eq_some_iff.1 hg).1
     obtain⟨A,c,hvs,hA⟩:=ownsRowF_slice hown
     refine⟨γ++[⟨v',v'.ownBlock.toList⟩],Φ,hI.pushObj (fun b hb=>hG.block b hb (by simp[Value.ownBlock])) hG.size hG.os hG.tape hG.output (fun _ _ h=>h) (fun b k h _=>h) (fun b k h=>Nat.lt_of_lt_of_le (hI.phi b k h) hG.size) _ _ (fun b hb=>hblk b (by simpa using hb)) (fun hE=>?_),?_⟩
     ·exact⟨hown,rfl,fun b hb k hk=>by have:=hI.phi b k hk;have:=(hblk b hb).1;omega⟩
     rw[hvs]
     refine .vec A _ _ c e 1 s.length (by unfold rowAt;simp[rowLike]) (Nat.le_refl _) hA (fun _=>?_)
     unfold gv
     rw[←hI.len]
     simp
    split at h
    ·rename_i hc
     simp only[Option.some.injEq,Prod.mk.injEq]at h
     obtain⟨rfl,rfl⟩:=h
     have hse:s=[]:=List.isEmpty_iff.1 hc
     subst hse
     refine⟨.slice none 0 0,w,?_,γ,Φ,.refl hI,.nils⟩
     simp[Builtin.append_,run_underlying hd1,run_underlying hd2,sizeOf,typeInfo,hi,Builtin.lenOf,Builtin.firstCells]
     rw[if_pos (show(⟨⟨[]⟩⟩:ByteArray)=ByteArray.empty from rfl)]
     rfl
    cases h
   ·rename_i l n
    split at h
    ·rename_i e' b hH
     split at h
     ·rename_i hc
      obtain⟨hn,rfl,hbd⟩:=hc
      simp only[Option.some.injEq,Prod.mk.injEq]at h
      obtain⟨rfl,rfl⟩:=h
      obtain⟨g,hg,hO⟩:=hI.gh hH
      obtain⟨hown,hgo,hphi⟩:=hO
      have hvg:=brow_vec hx hH hg hn
      subst hvg
      obtain⟨v',w',hrun,hown',hG,hnew,hsame⟩:=append_strF (E:=E) (w:=w) t1 t2 t e' i hd1 hd2 hi (hz rfl) hs hb g.v b.length (bcells b) hown s hbd
      have hlen:(b++s).length=b.length+s.length:=List.length_append
      have hbc:bcells b++bcells s=bcells (b++s):=by simp[bcells]
      rw[hbc,←hlen]at hown'
      refine⟨v',w',hrun,?_⟩
      have hmem:∀c,c∈g.own↔g.v.ownBlock=some c:=fun c=>by rw[hgo];simp
      have hblk:∀c,v'.ownBlock=some c→(c∈g.own∨w.heap.size≤c)∧c<w'.heap.size:=by
       intro c hc
       refine⟨(hnew c hc).imp (hmem c).2 id,?_⟩
       rcases hown'.2 with⟨hv,_⟩|⟨g',cap,cur,fz,hv,_,hg',_⟩
       ·rw[hv]at hc
        cases hc
       rw[hv]at hc
       simp only[Value.ownBlock,Option.some.injEq]at hc
       exact hc▸(Array.getElem?_eq_some_iff.1 hg').1
      obtain⟨A,c,hvs,hA⟩:=ownsRowF_slice hown'
      obtain⟨A0,c0,hvs0,_⟩:=ownsRowF_slice hown
      refine⟨γ.set l ⟨v',v'.ownBlock.toList⟩,Φ,hI.setObj hH hg (fun c hc hn=>hG.block c hc (fun hh=>hn ((hmem c).2 hh.symm))) hG.size hG.os hG.tape hG.output (fun _ _ h=>h) (fun c k h _ _=>h) (fun c k h=>Nat.lt_of_lt_of_le (hI.phi c k h) hG.size)
       (fun c k h hc=>absurd h (hphi c ((hmem c).1 hc) k)) (fun c hc=>hblk c (by simpa using hc)) (.inr ⟨A0,_,c0,hvs0⟩) (fun e1 sz1 n1 hr=>?_) (fun hE=>?_),?_⟩
      ·simp only[rowLike,Option.some.injEq,Prod.mk.injEq]at hr
       obtain⟨rfl,rfl,rfl⟩:=hr
       exact⟨_,rfl,by rw[hlen];omega,fun hx=>hsame (List.eq_nil_of_length_eq_zero (by rw[hlen]at hx;omega))⟩
      ·exact⟨hown',rfl,fun c hc k hk=>(hblk c hc).1.elim (fun h=>hphi c ((hmem c).1 h) k hk) (fun h=>by have:=hI.phi c k hk;omega)⟩
      rw[hvs,←hlen]
      have hlH:l<H.length:=(List.getElem?_eq_some_iff.1 hH).1
      have hlg:l<γ.length:=(List.getElem?_eq_some_iff.1 hg).1
      refine .vec A l _ c e' 1 (b++s).length (by unfold rowAt;rw[List.getElem?_set_self hlH];rfl) (Nat.le_refl _) hA (fun _=>?_)
      unfold gv
      rw[List.getElem?_set_self hlg]
      simp
     cases h
    cases h
   cases h
  cases h
 cases h
theorem brow_block{e:TypeId}{s:List UInt8}{v:Value}(hown:w.ownsRowF 0 e 1 v s.length (bcells s))(hs:s.isEmpty=false):∃b cap cur fz,v=.slice (some ⟨b,0,none⟩) s.length cap∧w.heap[b]?=some (.cells cur e fz)∧fz.2≤s.length∧s.length≤cap∧cap≤maxLen∧cur.size=cap∧cur.toList.take s.length=bcells s:=by
 rcases hown.2 with⟨_,hz⟩|⟨g,cap,cur,fz,hv,_,hg,hfz,hnc,hcm,hcs,ht⟩
 ·have:s=[]:=List.eq_nil_of_length_eq_zero hz
  subst this
  cases hs
 exact⟨g,cap,cur,fz,hv,hg,by simpa using hfz,hnc,hcm,by simpa using hcs,by simpa using ht⟩
theorem qsdata_sound(hI:OInv E γ H Φ w){ts:Array TypeId}{t:TypeId}{v:Value}{x r:AV}(hx:ARel γ H Φ w v x)(h:qsdata H x=some r):∃u,(Builtin.unsafeSliceData_ ts t #[v]).run E.P w=.ok u w∧ARel γ H Φ w u r:=by
 unfold qsdata at h
 split at h
 ·rename_i l n
  split at h
  ·rename_i e s hH
   split at h
   ·rename_i hc
    cases h
    obtain⟨g,hg,hO⟩:=hI.gh hH
    have hvg:=brow_vec hx hH hg hc.1.symm
    subst hvg
    obtain⟨b,cap,cur,fz,hv,hb,_,hnc,_⟩:=brow_block hO.1 hc.2
    have hpos:0<s.length:=by
     cases s with
     | nil=>simp at hc
     | cons a s=>simp
    rw[hv]
    refine⟨_,Lib.run_unsafeSliceData_row w ts t _ _ _ (by omega),.vptr b 0 l n 0 0 e 1 s.length (by unfold rowAt;rw[hH];rfl) (by omega) (fun _=>⟨cap,?_,rfl⟩)⟩
    unfold gv
    rw[hg,←hc.1,Option.map_some,hv]
   cases h
  cases h
 ·cases h
  cases hx
  exact⟨_,Lib.run_unsafeSliceData_nil w ts t 0 0,.pv .nilp⟩
 cases h
theorem freeze_heap(b n c:Nat)(h:c≠b):(w.freeze ⟨b,0,none⟩ n).heap[c]?=w.heap[c]?:=by
 unfold World.freeze
 split
 ·rfl
 simp only[Array.getElem?_modify]
 rw[if_neg (fun e=>h e.symm)]
theorem qustr_sound(hI:OInv E γ H Φ w){pt it t:TypeId}{p k:Value}{x y r:AV}(hx:ARel γ H Φ w p x)(hy:ARel γ H Φ w k y)(h:qustr E H pt x y=some r):∃u w',(Builtin.unsafeString_ #[pt,it] t #[p,k]).run E.P w=.ok u w'∧Steps1 E γ H Φ w r H u w':=by
 unfold qustr at h
 split at h
 ·rename_i l n k'
  split at h
  ·rename_i e _ _ _ e' s hT hH
   split at h
   ·rename_i hTe
    split at h
    ·rename_i hc
     cases h
     obtain⟨rfl,rfl,rfl,hse⟩:=hc
     have hyv:=arel_pv hy
     cases hyv
     obtain⟨i,hi,hs,_,_⟩:=u8_info hTe
     obtain⟨d,hd,hkd⟩:=(E.hT _ _ hT).und
     have hd:=tk_ptr hkd▸hd
     obtain⟨g,hg,hO⟩:=hI.gh hH
     obtain⟨hown,hgo,hphi⟩:=hO
     obtain⟨b,cap,cur,fz,hv,hb,hfz,hnc,hcm,hcs,htake⟩:=brow_block hown hse
     have hpos:s≠[]:=by
      intro hh
      rw[hh]at hse
      cases hse
     cases hx with
     | vptr b' o l n i' off e2 sz2 len2 hrow hn hcur=>
       unfold rowAt at hrow
       rw[hH]at hrow
       simp only[Option.bind_some,rowLike,Option.some.injEq,Prod.mk.injEq]at hrow
       obtain⟨rfl,rfl,rfl⟩:=hrow
       obtain⟨cap2,hgv,ho⟩:=hcur rfl
       unfold gv at hgv
       rw[hg,Option.map_some,hv]at hgv
       simp only[Option.some.injEq,Value.slice.injEq,Addr.mk.injEq,and_true,true_and]at hgv
       obtain⟨rfl,_⟩:=hgv
       have ho0:o=0:=by simpa using ho
       subst ho0
       have hcell:∀j x,s[j]?=some x→w.cell? ((⟨b,0,none⟩:Addr).add j)=some (.int .u8 x.toNat):=by
        intro j x hj
        have hjl:=(List.getElem?_eq_some_iff.1 hj).1
        rw[Addr.add_lit,Nat.zero_add,cell_of_row w b j _ _ _ hb]
        have h2:(cur.toList.take s.length)[j]?=(bcells s)[j]?:=by rw[htake]
        rw[List.getElem?_take,if_pos hjl,bcells,List.getElem?_map,hj,Option.map_some]at h2
        rw[←Array.getElem?_toList]
        exact h2
       have hrun:=Lib.run_unsafeString_row (P:=E.P) w pt it t e hd (by unfold Program.cellsOf;rw[hi];exact hs) b cur.size (by simp[World.shape?,hb]) s hpos (by omega) (by unfold maxLen at hcm;omega) hcell
       refine⟨_,_,hrun,?_⟩
       have hset:γ.set l g=γ:=by
        refine List.ext_getElem? fun i=>?_
        by_cases hi:i=l
        ·subst hi
         rw[List.getElem?_set_self (List.getElem?_eq_some_iff.1 hg).1,hg]
        rw[List.getElem?_set_ne (Ne.symm hi)]
       have hsetH:H.set l (.brow e s)=H:=by
        refine List.ext_getElem? fun i=>?_
        by_cases hi:i=l
        ·subst hi
         rw[List.getElem?_set_self (List.getElem?_eq_some_iff.1 hH).1,hH]
        rw[List.getElem?_set_ne (Ne.symm hi)]
       have hown1:g.v.ownBlock=some b:=by rw[hv];rfl
       have hmem:∀c,c∈g.own↔c=b:=fun c=>by rw[hgo,hown1];simp
       have hfsize:(w.freeze ⟨b,0,none⟩ s.length).heap.size=w.heap.size:=by
        unfold World.freeze
        split<;>simp
       have hfb:∃fz',(w.freeze ⟨b,0,none⟩ s.length).heap[b]?=some (.cells cur e fz')∧fz'.2≤s.length:=by
        unfold World.freeze
        rw[if_neg (by intro hh;exact hpos (List.eq_nil_of_length_eq_zero hh))]
        simp only[Array.getElem?_modify,if_true,hb,Option.map_some]
        obtain⟨lo,hi⟩:=fz
        refine⟨_,rfl,?_⟩
        simp only at hfz
        split<;>simp<;>omega
       obtain⟨fz',hfb1,hfb2⟩:=hfb
       have hk:=hI.setObj (o':=.brow e s) (g':=g) (w':=w.freeze ⟨b,0,none⟩ s.length) (Φ':=Φ) hH hg (fun c _ hn=>freeze_heap b _ c (fun e=>hn ((hmem c).2 e))) (by rw[hfsize];exact Nat.le_refl _) (by unfold World.freeze;split<;>rfl) (by unfold World.freeze;split<;>rfl) (by unfold World.freeze;split<;>rfl)
        (fun _ _ h=>h) (fun c k h _ _=>h) (fun c k h=>by rw[hfsize];exact hI.phi c k h) (fun c k h hc=>absurd h (hphi c (by rw[(hmem c).1 hc];exact hown1) k)) (fun c hc=>⟨.inl hc,by rw[hfsize];exact(hI.own l g hg c hc).2⟩) (.inl rfl)
        (fun e1 sz1 n1 hr=>⟨n1,hr,Nat.le_refl _,fun _=>rfl⟩) (fun _=>⟨⟨hown.1,.inr ⟨b,cap,cur,fz',hv,Nat.zero_le _,hfb1,by simpa using hfb2,hnc,hcm,by simpa using hcs,by rw[Nat.mul_one];exact htake⟩⟩,hgo,hphi⟩)
       rw[hset,hsetH]at hk
       exact⟨γ,Φ,hk,.pv (.str s)⟩
    cases h
   cases h
  cases h
 ·cases h
  have e1:=arel_pv hx
  have e2:=arel_pv hy
  cases e1
  cases e2
  exact⟨.string .empty,w,Lib.run_unsafeString_none w pt it t none,γ,Φ,.refl hI,.pv (.str [])⟩
 cases h
end
end Go.Abs
namespace Go.Abs
open Go.RowKit
structure St where
 t:Nat→AV
 n:Nat
 h:List AObj
structure Orc where
 C:FuncId→List AV→List AObj→Option (List AV×List AObj)
 pf:FuncId→Bool
def retAV:List AV→AV
 | [r]=>r
 | rs=>.tup rs
def retV:List Value→Value
 | [v]=>v
 | vs=>.tuple ⟨vs⟩
def Good(E:Env)(f:FuncId)(args:List AV)(H:List AObj)(rs:List AV)(H':List AObj):Prop:=
 ∀ (w:World) (Φ:Nat→Nat→Prop) (γ:List Gh) (cargs:List Value),OInv E γ H Φ w→cargs.length=args.length→(∀ (i:Nat) v a,cargs[i]?=some v→args[i]?=some a→ARel γ H Φ w v a)→
  Calls E.P f ⟨cargs⟩ w fun e w'=>∃vs γ' Φ',e=.returned (retV vs)∧Ok E γ H Φ w γ' H' Φ' w'∧vs.length=rs.length∧∀ (i:Nat) v a,vs[i]?=some v→rs[i]?=some a→ARel γ' H' Φ' w' v a
def Sound(E:Env)(O:Orc):Prop:=∀f args H rs H',O.C f args H=some (rs,H')→Good E f args H rs H'∧∃fn,E.P.funcs[f]?=some fn∧fn.body.isSome=true∧(fn.name=="runtime.NumGoroutine")=false
def qcall(O:Orc)(H:List AObj)(f:FuncId)(args:List AV):Option AV:=
 match argsPV H args with
 | some ps=>match O.C f (ps.map AV.pv) []with
   | some (rs,[])=>match allPV rs with
     | some _=>some (retAV rs)
     | none=>none
   | _=>none
 | none=>none
def cellLocs:List AV→List Nat
 | []=>[]
 | .ref l _::r|.mref l::r|.vec l _::r|.vptr l _ _ _::r=>l::cellLocs r
 | .fn _ caps::r=>caps++cellLocs r
 | _::r=>cellLocs r
def locsOf(H:List AObj):List AV→List Nat
 | []=>[]
 | a::r=>(match toPV H a with
   | some _=>[]
   | none=>match a with
     | .ref l _|.mref l|.vec l _|.vptr l _ _ _=>[l]
     | .fn _ caps=>caps
     | .agg vs=>cellLocs vs
     | _=>[])++locsOf H r
def innerLocs(H:List AObj):List Nat→List Nat
 | []=>[]
 | l::r=>(match H[l]? with
   | some (.var cs)=>cellLocs cs
   | some (.hrow _ _ _ _ _ l _)=>[l]
   | _=>[])++innerLocs H r
def dedup:List Nat→List Nat
 | []=>[]
 | x::r=>if (dedup r).contains x then dedup r else x::dedup r
theorem dedup_nodup:∀l:List Nat,(dedup l).Nodup
 | []=>by simp[dedup]
 | x::r=>by
   unfold dedup
   split
   ·exact dedup_nodup r
   rename_i h
   exact List.nodup_cons.2 ⟨by simpa using h,dedup_nodup r⟩
def renArgs(H:List AObj)(f:Nat→Option Nat):List AV→Option (List AV)
 | []=>some []
 | a::r=>match (match toPV H a with|some p=>some (AV.pv p)|none=>a.ren f),renArgs H f r with
   | some b,some s=>some (b::s)
   | _,_=>none
def ecall(O:Orc)(H:List AObj)(f:FuncId)(args:List AV):Option (AV×List AObj):=
 let base:=locsOf H args
 let sel:=dedup (base++innerLocs H base)
 match selObjs H (idx sel) sel,renArgs H (idx sel) args with
 | some Hs,some az=>match O.C f az Hs with
   | some (rs,H')=>if sel.length≤H'.length then some (retAV (rs.map (AV.mapL (backN H.length sel))),backObjs H sel H')else none
   | none=>none
 | _,_=>none
def fieldAt(E:Env)(ty:TypeId)(f:Nat):Option (Nat×TypeId):=
 match E.P.underlying ty with
 | some (.struct fields)=>(fields[f]?).map fun fd=>(fd.offset,fd.type)
 | _=>none
def rdField(T:Nat→Option TI)(t off:Nat)(x:AV):Option AV:=
 match T t,x with
 | some ti,.pv (.agg cs)=>(rdCells ti (cs.drop off)).map .pv
 | some ti,.agg vs=>match ti.k with
   | .strct _=>none
   | .other=>none
   | _=>vs[off]?
 | _,_=>none
def qfield(E:Env)(ty:TypeId)(f:Nat)(x:AV):Option AV:=
 match fieldAt E ty f with
 | some (off,t)=>rdField E.T t off x
 | none=>none
def qmkI(E:Env)(ty:TypeId):AV→Option AV
 | .pv p=>match E.P.underlying ty with
   | some (.interface _)=>none
   | some _=>some (.ifc ty p)
   | none=>none
 | _=>none
theorem qfield_sound{E:Env}{γ:List Gh}{H:List AObj}{Φ:Nat→Nat→Prop}{w:World}{ty:TypeId}{f:Nat}{v:Value}{x r:AV}(hx:ARel γ H Φ w v x)(h:qfield E ty f x=some r):∃u,(Instr.field ty v f).run E.P w=.ok u w∧ARel γ H Φ w u r:=by
 unfold qfield at h
 split at h
 ·rename_i off t hf
  unfold fieldAt at hf
  split at hf
  ·rename_i fields hd
   obtain⟨fd,hfd,he⟩:=Option.map_eq_some_iff.1 hf
   injection he with e1 e2
   subst e1 e2
   unfold rdField at h
   have run:∀cs:Array Value,(Instr.field ty (.agg cs) f).run E.P w=(part fd.type cs fd.offset).run E.P w:=fun cs=>by
    unfold Instr.field
    simp only[bind,Sem.run_bind',run_underlying hd,Result.andThen_ok]
    simp only[hfd,asAgg]
    rfl
   have part1:∀ (cs:Array Value) (d:TypeDesc) (u:Value),E.P.underlying fd.type=some d→isAggD d=false→cs[fd.offset]?=some u→(part fd.type cs fd.offset).run E.P w=.ok u w:=fun cs d u hd2 ha hu=>by
    unfold part
    simp only[bind,Sem.run_bind',run_isAgg hd2,ha,Result.andThen_ok,Bool.false_eq_true,if_false,hu]
    rfl
   have part2:∀ (cs:Array Value) (d:TypeDesc) (i:TypeInfo),E.P.underlying fd.type=some d→isAggD d=true→E.P.info? fd.type=some i→(part fd.type cs fd.offset).run E.P w=.ok (.agg (cs.extract fd.offset (fd.offset+i.size))) w:=fun cs d i hd2 ha hi=>by
    unfold part
    simp only[bind,Sem.run_bind',run_isAgg hd2,ha,Result.andThen_ok,if_true,run_sizeOf hi]
    rfl
   split at h
   ·rename_i ti cs hti
    obtain⟨p,hp,rfl⟩:=Option.map_eq_some_iff.1 h
    obtain⟨i,d,hi,hs,_,hd2,hk,_⟩:=(E.hT _ _ hti).info
    have hrep:=arel_pv hx
    cases hrep with
    | agg vs cs hl h1 hr=>
      rw[run]
      unfold rdCells at hp
      split at hp
      ·rename_i fs hfs
       split at hp
       ·rename_i hn
        simp only[Option.some.injEq]at hp
        subst hp
        rw[hfs]at hk
        have hdd:=tk_agg hk
        refine⟨_,part2 _ d i hd2 hdd hi,.pv ?_⟩
        rw[show(⟨vs⟩:Array Value).extract fd.offset (fd.offset+i.size)=⟨(vs.drop fd.offset).take ti.size⟩ from by
         apply Array.ext'
         simp[hs,List.take_drop,Nat.add_comm]]
        rw[List.length_drop]at hn
        refine .agg _ _ (by simp[hl]) (fun c hc=>h1 c (List.mem_of_mem_drop (List.mem_of_mem_take hc))) (fun k u c hu hc=>?_)
        have hkk:k<ti.size:=by
         have:=(List.getElem?_eq_some_iff.1 hu).1
         simp only[List.length_take]at this
         omega
        rw[List.getElem?_take,if_pos hkk,List.getElem?_drop]at hu hc
        exact hr _ u c hu hc
       cases hp
      ·cases hp
      rename_i k1 k2
      rw[List.getElem?_drop,Nat.add_zero]at hp
      have ho:fd.offset<vs.length:=by
       have:=(List.getElem?_eq_some_iff.1 hp).1
       omega
      exact⟨vs[fd.offset],part1 _ d _ hd2 (tk_notAgg hk (fun fs e=>k1 fs e) (fun e=>k2 e)) (by simp[ho]),.pv (hr _ _ _ (List.getElem?_eq_getElem ho) hp)⟩
   ·rename_i ti us hti
    obtain⟨i,d,hi,hs,_,hd2,hk,_⟩:=(E.hT _ _ hti).info
    cases hx with
    | agg ws us hl h1 hr=>
      rw[run]
      split at h
      ·cases h
      ·cases h
      rename_i k1 k2
      have ho:fd.offset<ws.length:=by
       have:=(List.getElem?_eq_some_iff.1 h).1
       omega
      exact⟨ws[fd.offset],part1 _ d _ hd2 (tk_notAgg hk (fun fs e=>k1 fs e) (fun e=>k2 e)) (by simp[ho]),hr _ _ _ (List.getElem?_eq_getElem ho) h⟩
   cases h
  cases hf
 cases h
theorem qmkI_sound{E:Env}{γ:List Gh}{H:List AObj}{Φ:Nat→Nat→Prop}{w:World}{ty:TypeId}{v:Value}{x r:AV}(hx:ARel γ H Φ w v x)(h:qmkI E ty x=some r):(Instr.makeInterface ty v).run E.P w=.ok (.iface ty v) w∧ARel γ H Φ w (.iface ty v) r:=by
 unfold qmkI at h
 split at h
 ·split at h
  ·cases h
  ·rename_i d hni hd
   cases h
   refine⟨?_,.ifc _ _ _ (arel_pv hx)⟩
   unfold Instr.makeInterface
   simp only[bind,Sem.run_bind',run_underlying hd,Result.andThen_ok]
   cases d<;>first|rfl|exact absurd rfl (hni _)
  cases h
 cases h
def aop(E:Env)(O:Orc)(σ:St)(o:Oper):Option (AV×List AObj):=
 match o.op with
 | .alloc ty=>ealloc E σ.h ty
 | .box _ x=>ebox σ.h (ev σ.t x)
 | .buildSlice ty len parts=>if (len==0&&E.ownT ty)=true then ebuildOwn E σ.h ty len (parts.toList.map fun p=>(p.1,ev σ.t p.2))else ebuildSlice E σ.h ty len (parts.toList.map fun p=>(p.1,ev σ.t p.2))
 | .store ty p x=>(estore E σ.h ty (ev σ.t p) (ev σ.t x)).map fun h=>(.any,h)
 | .makeMap _ none=>emakeMap σ.h 0
 | .makeSlice ty a b=>emakeSlice E σ.h ty (ev σ.t a) (ev σ.t b)
 | .mapUpdate ty m k v=>(emapUpdate E σ.h ty (ev σ.t m) (ev σ.t k) (ev σ.t v)).map fun h=>(.any,h)
 | .insert ty m k v=>(emapUpdate E σ.h ty (ev σ.t m) (ev σ.t k) (ev σ.t v)).map fun h=>(.any,h)
 | .call ⟨.builtin .append,args,ats⟩=>match args.toList,ats.toList with
   | [x,y],[t1,t2]=>if t1=t2 then eappend E σ.h t1 (ev σ.t x) (ev σ.t y)else eappendS E σ.h t1 t2 (ev σ.t x) (ev σ.t y)
   | _,_=>none
 | .call ⟨.builtin .unsafeSliceData,args,_⟩=>match args.toList with
   | [x]=>(qsdata σ.h (ev σ.t x)).map fun r=>(r,σ.h)
   | _=>none
 | .call ⟨.builtin .unsafeString,args,ats⟩=>match args.toList,ats.toList with
   | [x,y],[pt,_]=>(qustr E σ.h pt (ev σ.t x) (ev σ.t y)).map fun r=>(r,σ.h)
   | _,_=>none
 | .call ⟨.value (.func f),args,_⟩=>if O.pf f then(qcall O σ.h f (args.toList.map (ev σ.t))).map fun r=>(r,σ.h)else ecall O σ.h f (args.toList.map (ev σ.t))
 | .call ⟨.value (.tmp i),args,_⟩=>match σ.t i with
   | .fn f caps=>if O.pf f then(qcall O σ.h f (args.toList.map (ev σ.t)++caps.map fun l=>.ref l 0)).map fun r=>(r,σ.h)else ecall O σ.h f (args.toList.map (ev σ.t)++caps.map fun l=>.ref l 0)
   | _=>none
 | .call ⟨.builtin .min,args,_⟩=>(qmm false (args.toList.map (ev σ.t))).map fun r=>(r,σ.h)
 | .call ⟨.builtin .max,args,_⟩=>(qmm true (args.toList.map (ev σ.t))).map fun r=>(r,σ.h)
 | .build ty ps=>if E.ownT ty then(qbuildA2 E ty (ps.toList.map fun p=>(p.1,ev σ.t p.2))).map fun r=>(r,σ.h)else(qval E.T σ.t σ.h (.build ty ps)).map fun r=>(r,σ.h)
 | .range ty x=>erange E σ.h ty (ev σ.t x)
 | .next x s=>enext σ.h (ev σ.t x) s
 | .field ty x f=>(qfield E ty f (ev σ.t x)).map fun r=>(r,σ.h)
 | .makeInterface ty x=>(qmkI E ty (ev σ.t x)).map fun r=>(r,σ.h)
 | .binOp op ty x y _=>if isNil y then(qnil2 E.T op ty (ev σ.t x)).map fun r=>(r,σ.h)else match E.eqT ty with
   | some ks=>(qeq ks op (ev σ.t x) (ev σ.t y)).map fun r=>(r,σ.h)
   | none=>(qbin E.T op ty (ev σ.t x) (ev σ.t y)).map fun r=>(r,σ.h)
 | op=>(qval E.T σ.t σ.h op).map fun r=>(r,σ.h)
def put(σ:St)(dst:Option Nat)(v:AV)(h:List AObj):Option St:=
 match dst with
 | none=>some { σ with h:=h }
 | some d=>if d<σ.n then some { t:=upd σ.t d v,n:=σ.n,h:=h } else none
def astep(E:Env)(O:Orc)(ops:Array Oper)(σ:St)(o:Oper):Option St:=
 match o.guard with
 | none=>(aop E O σ o).bind fun r=>put σ o.dst r.1 r.2
 | some (j,want)=>match (ops[j]?).bind (·.dst)with
   | some g=>match σ.t g with
     | .pv (.bool b)=>if b=want then(aop E O σ o).bind fun r=>put σ o.dst r.1 r.2 else put σ o.dst (.tup []) σ.h
     | .tup []=>put σ o.dst (.tup []) σ.h
     | _=>none
   | none=>none
def arun(E:Env)(O:Orc)(ops:Array Oper):List Oper→St→Option St
 | [],σ=>some σ
 | o::r,σ=>(astep E O ops σ o).bind (arun E O ops r)
structure Rel(E:Env)(γ₀:List Gh)(H₀:List AObj)(Φ₀:Nat→Nat→Prop)(w₀:World)(σ:St)(a:Act)(w:World):Prop where
 ex:∃γ Φ,Ok E γ₀ H₀ Φ₀ w₀ γ σ.h Φ w∧Slots γ σ.h Φ w a σ.t
 size:a.tmps.size=σ.n
 defers:a.defers=E.dfs
 len0:γ₀.length=H₀.length
section
variable {E:Env}{O:Orc}{γ₀:List Gh}{H₀:List AObj}{Φ₀:Nat→Nat→Prop}{w₀:World}
theorem slots_put{γ:List Gh}{H:List AObj}{Φ:Nat→Nat→Prop}{w:World}{a:Act}{t:Nat→AV}(hs:Slots γ H Φ w a t){d:Nat}(hd:d<a.tmps.size){u:Value}{r:AV}(hr:ARel γ H Φ w u r):
 Slots γ H Φ w (a.put (some d) u) (upd t d r):=by
 intro i
 show ARel γ H Φ w ((a.tmps.setIfInBounds d u).getD i undef) (upd t d r i)
 unfold upd
 rw[Array.getD_eq_getD_getElem?,Array.getElem?_setIfInBounds]
 by_cases hi:d=i
 ·subst hi
  simp[hd,hr]
 rw[if_neg hi,if_neg (fun e=>hi e.symm),←Array.getD_eq_getD_getElem?]
 exact hs i
theorem rel_put{σ σ':St}{a:Act}{γ γ':List Gh}{Φ Φ':Nat→Nat→Prop}{w w':World}{H':List AObj}(hok:Ok E γ₀ H₀ Φ₀ w₀ γ σ.h Φ w)(hs:Slots γ σ.h Φ w a σ.t)(hsz:a.tmps.size=σ.n)(hd:a.defers=E.dfs)(h0:γ₀.length=H₀.length)
 (hk:Ok E γ σ.h Φ w γ' H' Φ' w') {dst:Option Nat} {u:Value} {r:AV} (hr:dst=none∨ARel γ' H' Φ' w' u r) (hp:put σ dst r H'=some σ'):Rel E γ₀ H₀ Φ₀ w₀ σ' (a.put dst u) w':=by
 have hs':Slots γ' H' Φ' w' a σ.t:=fun i=>(hs i).mono hk.evo
 unfold put at hp
 cases dst with
 | none=>
   simp only[Option.some.injEq]at hp
   subst hp
   exact⟨⟨γ',Φ',hok.trans hk,hs'⟩,hsz,hd,h0⟩
 | some d=>
   simp only at hp
   split at hp
   ·rename_i hdn
    simp only[Option.some.injEq]at hp
    subst hp
    rcases hr with h|h
    ·cases h
    exact⟨⟨γ',Φ',hok.trans hk,slots_put hs' (by rw[hsz];exact hdn) h⟩,by simp[Act.put,hsz],hd,h0⟩
   cases hp
theorem renArgs_spec{H:List AObj}{f:Nat→Option Nat}:∀ {az bs:List AV},renArgs H f az=some bs→az.length=bs.length∧∀ (i:Nat) a b,az[i]?=some a→bs[i]?=some b→(∃p,toPV H a=some p∧b=.pv p)∨a.ren f=some b
 | [],bs,h=>by
   simp only[renArgs,Option.some.injEq]at h
   subst h
   exact⟨rfl,fun i a p ha=>by simp at ha⟩
 | a::az,bs,h=>by
   simp only[renArgs]at h
   split at h
   ·rename_i b s hb hs
    simp only[Option.some.injEq]at h
    subst h
    obtain⟨h1,h2⟩:=renArgs_spec hs
    refine⟨by simp[h1],fun i c d hc hd=>?_⟩
    cases i with
    | zero=>
      simp only[List.getElem?_cons_zero,Option.some.injEq]at hc hd
      subst hc hd
      split at hb
      ·rename_i p hp
       simp only[Option.some.injEq]at hb
       exact .inl ⟨p,hp,hb.symm⟩
      exact .inr hb
    | succ i=>rw[List.getElem?_cons_succ]at hc hd;exact h2 i c d hc hd
   cases h
theorem ret_rel{γ:List Gh}{H:List AObj}{Φ:Nat→Nat→Prop}{w:World}{vs:List Value}{rs:List AV}(hl:vs.length=rs.length)(h:∀ (i:Nat) v a,vs[i]?=some v→rs[i]?=some a→ARel γ H Φ w v a):ARel γ H Φ w (retV vs) (retAV rs):=by
 match vs,rs,hl with
 | [],[],_=>exact .tup [] [] rfl (fun k v c hv=>by simp at hv)
 | [v],[r],_=>exact h 0 v r rfl rfl
 | v::v'::vs,r::r'::rs,hl=>exact .tup _ _ hl h
 | [v],r::r'::rs,hl=>simp at hl
 | v::v'::vs,[r],hl=>simp at hl
end
end Go.Abs
