import Derived.Test.YtljahlbklgnfhaaGreatDoorA11
import Derived.Maps.AppendAt
set_option linter.unusedVariables false
set_option linter.unusedSimpArgs false
set_option linter.defProp false
namespace Go.Abs
open Go.RowKit
structure Grew(w w':World)(v v':Value):Prop where
 os:w'.os=w.os
 tape:w'.tape=w.tape
 output:w'.output=w.output
 size:w.heap.size≤w'.heap.size
 way:(v'.ownBlock=some w.heap.size∧w.heap.size<w'.heap.size∧∀b,b<w.heap.size→w'.heap[b]?=w.heap[b]?) ∨
  (v'.ownBlock=v.ownBlock∧w'.heap.size=w.heap.size∧∀b,some b≠v.ownBlock→w'.heap[b]?=w.heap[b]?)
def Z1g(E:Env)(H:List AObj)(ty:TypeId)(x y:AV):Option (AV×List AObj):=
 match E.T ty with
 | some ⟨.slice e,_,_,_⟩=>match E.T e,toPV H y with
   | some te,some (.slice ys)=>
     if te.size≠0∧te.bytes≠0∧te.zero.isSome=true∧(ys.all fun z=>z.cells.length==te.size)=true then
      match x with
      | .nils=>if ys.length * te.bytes≤140737488355328 then some (.vec H.length ys.length,H++[.row e te.size ys true])else none
      | .full xs=>if (xs.length+ys.length) * te.bytes≤140737488355328∧ys.isEmpty=false∧(xs.all fun z=>z.cells.length==te.size)=true then
         some (.vec H.length (xs.length+ys.length),H++[.row e te.size (xs++ys) true])else none
      | .vec l n=>match H[l]? with
        | some (.row e' sz xs fz)=>if n=xs.length∧e'=e∧sz=te.size∧(xs.length+ys.length) * te.bytes≤140737488355328 then
           some (.vec l (xs.length+ys.length),H.set l (.row e' sz (xs++ys) fz))else none
        | _=>none
      | _=>none
     else none
   | _,_=>none
 | _=>none
section
variable {P:Program}{w:World}
def Src(w:World)(size m:Nat)(v:Value)(news:List Value):Prop:=
 news.length=m * size∧(∀u∈news,u.oneCell'=true)∧((v=.slice none 0 0∧m=0)∨∃a c,v=.slice (some a) m c∧∀ (j:Nat) u,news[j]?=some u→w.cell? (a.add j)=some u)
theorem Q8w(t ty e:TypeId)(i:TypeInfo)(ht:P.underlying t=some (.slice e))(hi:P.info? e=some i)(A:Option Addr)(n cap:Nat)(hn:n≤cap):
 (Builtin.append_ #[t,t] ty #[.slice A n cap,.slice none 0 0]).run P w=.ok (.slice A n cap) w:=by
 cases A<;>simp[Builtin.append_,run_underlying ht,sizeOf,typeInfo,hi,Builtin.lenOf,Builtin.firstCells,hn,storeCells]
theorem Z0l(e:TypeId)(i:TypeInfo)(z:Value)(hzs:z.cells.size=i.size)(xs news:List Value)(n m old:Nat)(hx:xs.length=n * i.size)(hl:news.length=m * i.size)(h63:n+m≤maxLen):
 (w.drew.alloc (.cells (xs.toArray++news.toArray++Builtin.zeroCells z.cells (grownCap w (n+m) old e-(n+m))) e)).ownsRow 0 e i.size
   (.slice (some ⟨w.heap.size,0,none⟩) (n+m) (grownCap w (n+m) old e)) (n+m) (xs++news):=by
 have hlen:(xs++news).length=(n+m) * i.size:=by rw[List.length_append,hx,hl,Nat.add_mul]
 have hge:=grownCap_ge w (n+m) old e
 refine⟨hlen,.inr ⟨w.heap.size,_,_,rfl,Nat.zero_le _,heap_alloc_new w.drew _,hge,grownCap_le_maxLen w (n+m) old e h63,?_,?_⟩⟩
 ·simp only[Array.size_append,List.size_toArray,size_zeroCells,hzs,hx,hl,←Nat.add_mul]
  congr 1
  omega
 simp only[Array.toList_append,List.append_assoc]
 rw[←List.append_assoc,←hlen]
 exact List.take_left
theorem Q8j(v:Value)(cs:Array Value)(e:TypeId)(n c:Nat):Grew w (w.drew.alloc (.cells cs e)) v (.slice (some ⟨w.heap.size,0,none⟩) n c):=
 ⟨rfl,rfl,rfl,by simp,.inl ⟨rfl,by simp,fun b hb=>heap_alloc_old w.drew _ b hb⟩⟩
theorem Z1j(t ty e:TypeId)(i:TypeInfo)(z:Value)(ht:P.underlying t=some (.slice e))(hi:P.info? e=some i)(hz:i.zero=some z)(hzs:z.cells.size=i.size)
 (v:Value) (n:Nat) (xs:List Value) (hown:w.ownsRow 0 e i.size v n xs) (x:Value) (m:Nat) (news:List Value) (hsrc:Src w i.size m x news)
 (h63:n+m≤maxLen) (hbytes:(n+m) * i.bytes≤140737488355328):
 ∃v' w',(Builtin.append_ #[t,t] ty #[v,x]).run P w=.ok v' w'∧w'.ownsRow 0 e i.size v' (n+m) (xs++news)∧Grew w w' v v'∧(m=0→v'=v):=by
 obtain⟨hl,h1,hx⟩:=hsrc
 have hsmall:n+m≤9223372036854775807:=by unfold maxLen at h63;omega
 rcases hx with⟨rfl,rfl⟩|⟨a,c,rfl,hnews⟩
 ·have hnil:news=[]:=List.eq_nil_of_length_eq_zero (by simpa using hl)
  subst hnil
  refine⟨v,w,?_,by simpa using hown,⟨rfl,rfl,rfl,Nat.le_refl _,.inr ⟨rfl,rfl,fun _ _=>rfl⟩⟩,fun _=>rfl⟩
  rcases hown.2 with⟨rfl,rfl⟩|⟨g,cap,cur,rfl,_,_,hnc,_⟩
  ·exact Q8w t ty e i ht hi none 0 0 (Nat.le_refl _)
  exact Q8w t ty e i ht hi _ n cap hnc
 rcases hown.2 with⟨rfl,rfl⟩|⟨g,cap,cur,rfl,hbg,hg,hnc,hcm,hcs,htake⟩
 ·have hx:xs=[]:=List.eq_nil_of_length_eq_zero (by simpa using hown.1)
  subst hx
  by_cases hm:m=0
  ·subst hm
   have hn:news=[]:=List.eq_nil_of_length_eq_zero (by simpa using hl)
   subst hn
   refine⟨.slice none 0 0,w,?_,World.ownsRow_nil w 0 e i.size,⟨rfl,rfl,rfl,Nat.le_refl _,.inr ⟨rfl,rfl,fun _ _=>rfl⟩⟩,fun _=>rfl⟩
   simp[Builtin.append_,run_underlying ht,sizeOf,typeInfo,hi,Builtin.lenOf,Builtin.firstCells,loadCells,loadCellsFrom]
  have hr:=run_append_nil (P:=P) w t ty e i z ht hi hz a m c news hl hnews (by omega) (by omega) (by have hb:=hbytes;simp only[Nat.zero_add]at hb;omega)
  have hgr:=Z0l (w:=w) e i z hzs [] news 0 m 0 (by simp) hl h63
  simp only[Nat.zero_add,List.nil_append,Array.empty_append]at hgr ⊢
  exact⟨_,_,hr,hgr,Q8j _ _ _ _ _,fun h=>absurd h hm⟩
 by_cases hroom:n+m≤cap
 ·have hfit:n * i.size+news.length≤cur.size:=by rw[hl,hcs,←Nat.add_mul];exact Nat.mul_le_mul_right _ hroom
  have hr:=run_append_room (P:=P) w t ty e i ht hi g n cap cur hg a m c news hl hnews h1 hroom hfit
  have hlen:(xs++news).length=(n+m) * i.size:=by rw[List.length_append,hown.1,hl,Nat.add_mul]
  refine⟨_,_,hr,⟨hlen,.inr ⟨g,cap,_,rfl,hbg,setRow_heap w g cur _ e _ hg,hroom,hcm,?_,?_⟩⟩,⟨rfl,rfl,rfl,by simp,.inr ⟨rfl,by simp,fun b hb=>setRow_other w g b _ (fun e=>hb (by simp[Value.ownBlock,e]))⟩⟩,fun h=>by rw[h];rfl⟩
  ·simp only[List.size_toArray,List.length_append,List.length_take,List.length_drop,Array.length_toList]
   omega
  rw[htake,←hlen]
  exact List.take_left
 have holds:∀ (j:Nat) u,xs[j]?=some u→w.cell? ((⟨g,0,none⟩:Addr).add j)=some u:=hown.cells (g:=g) rfl
 have hr:=run_append_grow (P:=P) w t ty e i z ht hi hz ⟨g,0,none⟩ n cap xs hown.1 holds a m c news hl hnews (by omega) (by omega) (growslice_fits (by omega) hbytes)
 exact⟨_,_,hr,Z0l e i z hzs xs news n m cap hown.1 hl h63,Q8j _ _ _ _ _,fun h=>by omega⟩
theorem J2x(t ty e:TypeId)(i:TypeInfo)(z:Value)(ht:P.underlying t=some (.slice e))(hi:P.info? e=some i)(hz:i.zero=some z)(hzs:z.cells.size=i.size)
 (v:Value) (n:Nat) (xs:List Value) (hx:Src w i.size n v xs) (hfull:∃A,v=.slice A n n) (x:Value) (m:Nat) (news:List Value) (hsrc:Src w i.size m x news) (hm:0<m)
 (h63:n+m≤maxLen) (hbytes:(n+m) * i.bytes≤140737488355328):
 ∃v' w',(Builtin.append_ #[t,t] ty #[v,x]).run P w=.ok v' w'∧w'.ownsRow 0 e i.size v' (n+m) (xs++news)∧Grew w w' (.slice none 0 0) v':=by
 obtain⟨hl,h1,hx2⟩:=hsrc
 obtain⟨hxl,_,hxx⟩:=hx
 obtain⟨A,rfl⟩:=hfull
 have hsmall:n+m≤9223372036854775807:=by unfold maxLen at h63;omega
 rcases hx2 with⟨_,rfl⟩|⟨a,c,rfl,hnews⟩
 ·omega
 rcases hxx with⟨he,rfl⟩|⟨b,c',he,holds⟩
 ·injection he with he
  subst he
  have hx:xs=[]:=List.eq_nil_of_length_eq_zero (by simpa using hxl)
  subst hx
  have hr:=run_append_nil (P:=P) w t ty e i z ht hi hz a m c news hl hnews (by omega) (by omega) (by have hb:=hbytes;simp only[Nat.zero_add]at hb;omega)
  have hgr:=Z0l (w:=w) e i z hzs [] news 0 m 0 (by simp) hl h63
  simp only[Nat.zero_add,List.nil_append,Array.empty_append]at hgr ⊢
  exact⟨_,_,hr,hgr,Q8j _ _ _ _ _⟩
 injection he with he
 subst he
 have hr:=run_append_grow (P:=P) w t ty e i z ht hi hz b n n xs hxl holds a m c news hl hnews (by omega) (by omega) (growslice_fits (by omega) hbytes)
 exact⟨_,_,hr,Z0l e i z hzs xs news n m n hxl hl h63,Q8j _ _ _ _ _⟩
end
end Go.Abs
namespace Go.Abs
open Go.RowKit
section
variable {E:Env}{γ:List Gh}{H:List AObj}{Φ:Nat→Nat→Prop}{w:World}
theorem Z6c{v:Value}{ys:List PV}{size:Nat}(h:Rep Φ w v (.slice ys))(hs:∀y∈ys,y.cells.length=size):∃news,Src w size ys.length v news∧Q1f Φ w news (flat ys):=by
 cases h with
 | sliceNil=>exact⟨[],⟨by simp,fun u hu=>(by cases hu),.inl ⟨rfl,rfl⟩⟩,⟨rfl,fun c hc=>(by simp[Q3k]at hc),fun k v c hv _=>(by simp at hv)⟩⟩
 | sliceAny A cap hm=>exact⟨[],⟨by simp,fun u hu=>(by cases hu),.inr ⟨A,cap,rfl,fun j u hu=>(by simp at hu)⟩⟩,⟨rfl,fun c hc=>(by simp[Q3k]at hc),fun k v c hv _=>(by simp at hv)⟩⟩
 | slice b o len cap sz xs vs hl hc hm hsz h1 hcell hrep=>
   have hfl:=Q0h hs
   have hget:∀k,k<(flat ys).length→((List.range (flat ys).length).map vs)[k]?=some (vs k):=fun k hk=>by
    rw[List.getElem?_map,List.getElem?_range hk]
    rfl
   have hlen:((List.range (flat ys).length).map vs).length=(flat ys).length:=by simp
   refine⟨(List.range (flat ys).length).map vs,⟨by rw[hlen,hfl],fun u hu=>?_,.inr ⟨⟨b,o,none⟩,cap,by rw[hl],fun j u hu=>?_⟩⟩,hlen,h1,fun k v c hv hc=>?_⟩
   ·obtain⟨k,hk,rfl⟩:=List.mem_map.1 hu
    have hk:k<(flat ys).length:=by simpa using hk
    exact(hrep k _ (List.getElem?_eq_getElem hk)).one (h1 _ (List.getElem_mem hk))
   ·have hj:j<(flat ys).length:=by
     have:=(List.getElem?_eq_some_iff.1 hu).1
     omega
    rw[hget j hj]at hu
    simp only[Option.some.injEq]at hu
    rw[Addr.add_lit,←hu]
    exact(hcell j hj).2
   have hk:k<(flat ys).length:=(List.getElem?_eq_some_iff.1 hc).1
   rw[hget k hk]at hv
   simp only[Option.some.injEq]at hv
   rw[←hv]
   exact hrep k c hc
theorem Q4i{vs us:List Value}{cs ds:List PV}(h:Q1f Φ w vs cs)(k:Q1f Φ w us ds):Q1f Φ w (vs++us) (cs++ds):=by
 refine⟨by rw[List.length_append,List.length_append,h.1,k.1],fun c hc=>?_,fun i v c hv hc=>?_⟩
 ·rcases List.mem_append.1 hc with hc|hc
  ·exact h.2.1 c hc
  exact k.2.1 c hc
 by_cases hi:i<cs.length
 ·rw[List.getElem?_append_left (by rw[h.1];exact hi)]at hv
  rw[List.getElem?_append_left hi]at hc
  exact h.2.2 i v c hv hc
 rw[List.getElem?_append_right (by rw[h.1];omega)]at hv
 rw[List.getElem?_append_right (by omega)]at hc
 exact k.2.2 _ v c (by rw[←h.1];exact hv) hc
theorem Z8n{Φ':Nat→Nat→Prop}{w':World}{vs:List Value}{cs:List PV}(h:Q1f Φ w vs cs)(hΦ:∀b k,Φ b k→Φ' b k)(hw:∀b k,Φ b k→w'.cell? ⟨b,k,none⟩=w.cell? ⟨b,k,none⟩):
 Q1f Φ' w' vs cs:=⟨h.1,h.2.1,fun k v c hv hc=>(h.2.2 k v c hv hc).mono hΦ hw⟩
theorem J0g{e:TypeId}{sz n:Nat}{v:Value}{cells:List Value}(h:w.ownsRow 0 e sz v n cells){b:Nat}(hb:v.ownBlock=some b){k:Nat}(hk:k<n * sz):w.cell? ⟨b,k,none⟩=cells[k]?:=by
 have hl:k<cells.length:=by rw[h.1];exact hk
 have:=h.cells hb k cells[k] (List.getElem?_eq_getElem hl)
 rw[Addr.add_lit,Nat.zero_add]at this
 rw[this,List.getElem?_eq_getElem hl]
theorem Q3v{e:TypeId}{sz n:Nat}{v:Value}{cells:List Value}(h:w.ownsRow 0 e sz v n cells):∃A c,v=.slice A n c∧(0<n→∃b,A=some ⟨b,0,none⟩):=by
 rcases h.2 with⟨rfl,rfl⟩|⟨g,cap,cur,rfl,_⟩
 ·exact⟨none,0,rfl,fun h=>absurd h (by omega)⟩
 exact⟨_,_,rfl,fun _=>⟨g,rfl⟩⟩
theorem Z0z(hI:OInv E γ H Φ w){w':World}{v v':Value}{e:TypeId}{sz:Nat}{zs:List PV}{cells:List Value}(hown:w'.ownsRow 0 e sz v' zs.length cells)(hG:Grew w w' v v')(hv:v.ownBlock=none)
 (hrel:Q1f Φ w cells (flat zs)) (hsz:∀z∈zs,z.cells.length=sz) (h0:0<sz) (fz:Bool):
 Q6w E γ H Φ w (.vec H.length zs.length) (H++[.row e sz zs fz]) v' w':=by
 have hsame:∀b,b<w.heap.size→w'.heap[b]?=w.heap[b]?:=by
  rcases hG.way with⟨_,_,h⟩|⟨_,_,h⟩
  ·exact h
  exact fun b _=>h b (by rw[hv];simp)
 have hblk:∀b,v'.ownBlock=some b→w.heap.size≤b∧b<w'.heap.size:=by
  intro b hb
  rcases hG.way with⟨h,hlt,_⟩|⟨h,_,_⟩
  ·rw[h]at hb
   injection hb with hb
   omega
  rw[h,hv]at hb
  cases hb
 obtain⟨A,c,hvs,hA⟩:=Q3v hown
 have hfl:=Q0h hsz
 refine⟨γ++[⟨v',v'.ownBlock.toList⟩],fun b k=>Φ b k∨(fz=true∧v'.ownBlock=some b∧k<zs.length * sz),hI.pushObj hsame hG.size hG.os hG.tape hG.output (fun _ _ h=>.inl h) (fun b k h hb=>?_) (fun b k h=>?_) _ _ (fun b hb=>?_) (fun hE=>?_),?_⟩
 ·rcases h with h|⟨_,h,_⟩
  ·exact h
  have:=(hblk b h).1
  omega
 ·rcases h with h|⟨_,h,_⟩
  ·exact Nat.lt_of_lt_of_le (hI.phi b k h) hG.size
  exact(hblk b h).2
 ·exact hblk b (by simpa using hb)
 ·refine⟨cells,hown,hrel.1,fun k u c hu hc=>(hrel.2.2 k u c hu hc).mono (fun _ _ h=>.inl h) hE.cell,hsz,hrel.2.1,rfl,h0,fun b hb k=>⟨fun h=>?_,fun hf hk=>.inr ⟨hf,hb,hk⟩⟩⟩
  rcases h with h|⟨hf,_,hk⟩
  ·have h1:=hI.phi b k h
   have h2:=(hblk b hb).1
   omega
  exact⟨hf,hk⟩
 rw[hvs]
 refine .vec A _ _ c e sz zs.length (Q2a (fz:=fz) (by simp)) (Nat.le_refl _) hA (fun _=>?_)
 unfold gv
 rw[←hI.len]
 simp
theorem Z8l(hI:OInv E γ H Φ w){ty t:TypeId}{v u:Value}{x y r:AV}{H':List AObj}(hx:ARel γ H Φ w v x)(hy:ARel γ H Φ w u y)(h:Z1g E H ty x y=some (r,H')):
 ∃v' w',(Builtin.append_ #[ty,ty] t #[v,u]).run E.P w=.ok v' w'∧Q6w E γ H Φ w r H' v' w':=by
 unfold Z1g at h
 split at h
 ·rename_i e _ _ _ hT
  split at h
  ·rename_i te ys hTe hpv
   split at h
   ·rename_i hc
    obtain⟨hs0,hb0,hzs,hall⟩:=hc
    obtain⟨d,hd,hk⟩:=(E.hT _ _ hT).und
    rw[Q3g hk]at hd
    obtain⟨i,d',hi,his,hib,hd',hk',hz⟩:=(E.hT _ _ hTe).info
    obtain⟨z,hzz⟩:=Option.isSome_iff_exists.1 hzs
    obtain⟨zv,hzv,hzl,hzn,_⟩:=hz z hzz
    have hzc:zv.cells.size=i.size:=by rw[his,←hzn,←hzl];simp
    have hysz:∀q∈ys,q.cells.length=i.size:=fun q hq=>by
     have:=List.all_eq_true.1 hall q hq
     rw[his]
     simpa using this
    obtain⟨news,hsrc,hnr⟩:=Z6c (Q1n hI hy hpv) hysz
    have small:∀n:Nat,n * te.bytes≤140737488355328→n≤maxLen:=fun n hn=>by
     have:n≤n * te.bytes:=Nat.le_mul_of_pos_right _ (by omega)
     unfold maxLen
     omega
    split at h
    ·split at h
     ·rename_i hbd
      simp only[Option.some.injEq,Prod.mk.injEq]at h
      obtain⟨rfl,rfl⟩:=h
      cases hx with
      | nils=>
        obtain⟨v',w',hrun,hown,hG,_⟩:=Z1j (P:=E.P) (w:=w) ty t e i zv hd hi hzv hzc (.slice none 0 0) 0 [] (World.ownsRow_nil w 0 e i.size) u ys.length news hsrc (by rw[Nat.zero_add];exact small _ hbd) (by rw[Nat.zero_add,hib];exact hbd)
        rw[Nat.zero_add,List.nil_append]at hown
        refine⟨v',w',hrun,?_⟩
        rw[←his]
        exact Z0z hI hown hG rfl hnr hysz (by omega) true
     cases h
    ·rename_i xs
     split at h
     ·rename_i hbd
      obtain⟨hbd,hne,hxall⟩:=hbd
      simp only[Option.some.injEq,Prod.mk.injEq]at h
      obtain⟨rfl,rfl⟩:=h
      have hxsz:∀q∈xs,q.cells.length=i.size:=fun q hq=>by
       have:=List.all_eq_true.1 hxall q hq
       rw[his]
       simpa using this
      cases hx with
      | full A n xs hrx=>
        obtain⟨olds,hxsrc,hxr⟩:=Z6c hrx hxsz
        have hn:n=xs.length:=by
         cases hrx with
         | sliceNil=>rfl
         | sliceAny A cap hm=>rfl
         | slice b o len cap sz xs vs hl _ _ _ _ _ _=>exact hl.symm
        subst hn
        have hpos:0<ys.length:=by
         cases ys with
         | nil=>simp at hne
         | cons a b=>simp
        obtain⟨v',w',hrun,hown,hG⟩:=J2x (P:=E.P) (w:=w) ty t e i zv hd hi hzv hzc _ xs.length olds hxsrc ⟨A,rfl⟩ u ys.length news hsrc hpos (small _ hbd) (by rw[hib];exact hbd)
        refine⟨v',w',hrun,?_⟩
        have hlen:(xs++ys).length=xs.length+ys.length:=List.length_append
        rw[←his,←hlen]
        rw[←hlen]at hown
        refine Z0z hI hown hG rfl ?_ (fun q hq=>?_) (by omega) true
        ·rw[Q6o]
         exact Q4i hxr hnr
        rcases List.mem_append.1 hq with hq|hq
        ·exact hxsz q hq
        exact hysz q hq
     cases h
    ·rename_i l n
     split at h
     ·rename_i e' sz xs fz hH
      split at h
      ·rename_i hbd
       obtain⟨rfl,rfl,rfl,hbd⟩:=hbd
       simp only[Option.some.injEq,Prod.mk.injEq]at h
       obtain⟨rfl,rfl⟩:=h
       obtain⟨g,hg,hO⟩:=hI.gh hH
       have hO':=hO
       obtain⟨cells,hown,hcl,hrep,hsz,h1,hgo,h0,hphi⟩:=hO
       have hvg:v=g.v:=by
        cases hx with
        | vec A l n cap e0 sz0 len0 hrow hn hA hcur=>
          have hre:=Q2a hH
          rw[hrow]at hre
          injection hre with hre
          injection hre with _ hre
          injection hre with _ hxx
          have:=hcur hxx
          simp only[gv,hg,Option.map_some,Option.some.injEq]at this
          exact this.symm
       subst hvg
       rw[←his]at hown hsz hphi
       obtain⟨v',w',hrun,hown',hG,hsame⟩:=Z1j (P:=E.P) (w:=w) ty t e' i zv hd hi hzv hzc g.v xs.length cells hown u ys.length news hsrc (small _ hbd) (by rw[hib];exact hbd)
       refine⟨v',w',hrun,?_⟩
       have hlen:(xs++ys).length=xs.length+ys.length:=List.length_append
       have hxsz:∀q∈xs++ys,q.cells.length=i.size:=fun q hq=>by
        rcases List.mem_append.1 hq with hq|hq
        ·exact hsz q hq
        exact hysz q hq
       have hmem:∀b,b∈g.own↔g.v.ownBlock=some b:=fun b=>by rw[hgo];simp
       have hblk:∀b,v'.ownBlock=some b→(b∈g.own∨w.heap.size≤b)∧b<w'.heap.size:=by
        intro b hb
        rcases hG.way with⟨h,hlt,_⟩|⟨h,hs,_⟩
        ·rw[h]at hb
         injection hb with hb
         exact⟨.inr (by omega),by omega⟩
        rw[h]at hb
        have:=(hmem b).2 hb
        exact⟨.inl this,Nat.lt_of_lt_of_le (hI.own l g hg b this).2 hG.size⟩
       have hmul:xs.length * i.size≤(xs.length+ys.length) * i.size:=Nat.mul_le_mul_right _ (by omega)
       have hcell:∀b k,Φ b k→b∈g.own→w'.cell? ⟨b,k,none⟩=w.cell? ⟨b,k,none⟩:=by
        intro b k hΦ hb
        have hob:=(hmem b).1 hb
        obtain⟨_,hk⟩:=(hphi b hob k).1 hΦ
        rcases hG.way with⟨_,_,hsm⟩|⟨hv',_,_⟩
        ·exact cell_of_heap (hsm b (hI.own l g hg b hb).2)
        rw[J0g hown' (b:=b) (by rw[hv'];exact hob) (by omega),J0g hown hob hk,List.getElem?_append_left (by rw[hown.1];exact hk)]
       obtain⟨A,c,hvs,hA⟩:=Q3v hown'
       obtain⟨A0,c0,hvs0,_⟩:=Q3v hown
       refine⟨γ.set l ⟨v',v'.ownBlock.toList⟩,fun b k=>Φ b k∨(fz=true∧v'.ownBlock=some b∧k<(xs.length+ys.length) * i.size),hI.setObj hH hg (fun b hb hn=>?_) hG.size hG.os hG.tape hG.output (fun _ _ h=>.inl h) (fun b k h hb hn=>?_) (fun b k h=>?_) hcell
        (fun b hb=>hblk b (by simpa using hb)) (.inr ⟨A0,_,c0,hvs0⟩) (Q7c (by rw[hlen];omega) (fun hx=>hsame (by rw[hlen]at hx;omega))) (fun hE=>?_),?_⟩
       ·rcases hG.way with⟨_,_,hsm⟩|⟨_,_,hsm⟩
        ·exact hsm b hb
        exact hsm b (fun hh=>hn ((hmem b).2 hh.symm))
       ·rcases h with h|⟨_,h,_⟩
        ·exact h
        rcases(hblk b h).1 with h1|h1
        ·exact absurd h1 hn
        omega
       ·rcases h with h|⟨_,h,_⟩
        ·exact Nat.lt_of_lt_of_le (hI.phi b k h) hG.size
        exact(hblk b h).2
       ·have hall:=Q4i (Φ:=Φ) (w:=w) ⟨hcl,h1,hrep⟩ hnr
        rw[←Q6o]at hall
        have hall':=Z8n hall (Φ':=fun b k=>Φ b k∨(fz=true∧v'.ownBlock=some b∧k<(xs.length+ys.length) * i.size)) (fun _ _ h=>.inl h) hE.cell
        rw[←his]
        refine⟨cells++news,by rw[hlen];exact hown',hall'.1,hall'.2.2,hxsz,hall'.2.1,rfl,by omega,fun b hb k=>⟨fun h=>?_,fun hf hk=>.inr ⟨hf,hb,by rw[hlen]at hk;exact hk⟩⟩⟩
        rcases h with h|⟨hf,_,hk⟩
        ·rcases(hblk b hb).1 with hbo|hbo
         ·obtain⟨hf,hk⟩:=(hphi b ((hmem b).1 hbo) k).1 h
          exact⟨hf,by rw[hlen];omega⟩
         have:=hI.phi b k h
         omega
        exact⟨hf,by rw[hlen];exact hk⟩
       rw[hvs]
       have hlH:l<H.length:=(List.getElem?_eq_some_iff.1 hH).1
       have hlg:l<γ.length:=(List.getElem?_eq_some_iff.1 hg).1
       refine .vec A l _ c e' te.size (xs++ys).length (Q2a (fz:=fz) (by rw[List.getElem?_set_self hlH])) (by rw[hlen];exact Nat.le_refl _) hA (fun _=>?_)
       unfold gv
       rw[List.getElem?_set_self hlg]
       simp
      cases h
     cases h
    cases h
   cases h
  cases h
 cases h
end
end Go.Abs
