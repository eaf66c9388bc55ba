import Derived.Test.YtkfcehagblhjaaaGreatDoorA12
set_option linter.unusedVariables false
set_option linter.unusedSimpArgs false
set_option linter.defProp false
namespace Go.Abs
open Go.RowKit
section
variable {E:Env}{γ:List Gh}{H:List AObj}{Φ:Nat→Nat→Prop}{w:World}
theorem src_of_rep{v:Value}{ys:List PV}{size:Nat}(h:Rep Φ w v (.slice ys))(hs:∀y∈ys,y.cells.length=size):∃news,Src w size ys.length v news∧CellsRel Φ w news (flat ys):=by
 cases h with
 | sliceNil=>exact⟨[],⟨by simp,fun u hu=>(by cases hu),.inl ⟨rfl,rfl⟩⟩,⟨rfl,fun c hc=>(by simp[flat_nil]at hc),fun k v c hv _=>(by simp at hv)⟩⟩
 | sliceAny A cap hm=>exact⟨[],⟨by simp,fun u hu=>(by cases hu),.inr ⟨A,cap,rfl,fun j u hu=>(by simp at hu)⟩⟩,⟨rfl,fun c hc=>(by simp[flat_nil]at hc),fun k v c hv _=>(by simp at hv)⟩⟩
 | slice b o len cap sz xs vs hl hc hm hsz h1 hcell hrep=>
   have hfl:=flat_length hs
   have hget:∀k,k<(flat ys).length→((List.range (flat ys).length).map vs)[k]?=some (vs k):=fun k hk=>by
    rw[List.getElem?_map,List.getElem?_range hk]
    rfl
   have hlen:((List.range (flat ys).length).map vs).length=(flat ys).length:=by simp
   refine⟨(List.range (flat ys).length).map vs,⟨by rw[hlen,hfl],fun u hu=>?_,.inr ⟨⟨b,o,none⟩,cap,by rw[hl],fun j u hu=>?_⟩⟩,hlen,h1,fun k v c hv hc=>?_⟩
   ·obtain⟨k,hk,rfl⟩:=List.mem_map.1 hu
    have hk:k<(flat ys).length:=by simpa using hk
    exact(hrep k _ (List.getElem?_eq_getElem hk)).one (h1 _ (List.getElem_mem hk))
   ·have hj:j<(flat ys).length:=by
     have:=(List.getElem?_eq_some_iff.1 hu).1
     omega
    rw[hget j hj]at hu
    simp only[Option.some.injEq]at hu
    rw[Addr.add_lit,←hu]
    exact(hcell j hj).2
   have hk:k<(flat ys).length:=(List.getElem?_eq_some_iff.1 hc).1
   rw[hget k hk]at hv
   simp only[Option.some.injEq]at hv
   rw[←hv]
   exact hrep k c hc
theorem cellsRel_append{vs us:List Value}{cs ds:List PV}(h:CellsRel Φ w vs cs)(k:CellsRel Φ w us ds):CellsRel Φ w (vs++us) (cs++ds):=by
 refine⟨by rw[List.length_append,List.length_append,h.1,k.1],fun c hc=>?_,fun i v c hv hc=>?_⟩
 ·rcases List.mem_append.1 hc with hc|hc
  ·exact h.2.1 c hc
  exact k.2.1 c hc
 by_cases hi:i<cs.length
 ·rw[List.getElem?_append_left (by rw[h.1];exact hi)]at hv
  rw[List.getElem?_append_left hi]at hc
  exact h.2.2 i v c hv hc
 rw[List.getElem?_append_right (by rw[h.1];omega)]at hv
 rw[List.getElem?_append_right (by omega)]at hc
 exact k.2.2 _ v c (by rw[←h.1];exact hv) hc
theorem cellsRel_mono{Φ':Nat→Nat→Prop}{w':World}{vs:List Value}{cs:List PV}(h:CellsRel Φ w vs cs)(hΦ:∀b k,Φ b k→Φ' b k)(hw:∀b k,Φ b k→w'.cell? ⟨b,k,none⟩=w.cell? ⟨b,k,none⟩):
 CellsRel Φ' w' vs cs:=⟨h.1,h.2.1,fun k v c hv hc=>(h.2.2 k v c hv hc).mono hΦ hw⟩
theorem owns_cell{e:TypeId}{sz n:Nat}{v:Value}{cells:List Value}(h:w.ownsRow 0 e sz v n cells){b:Nat}(hb:v.ownBlock=some b){k:Nat}(hk:k<n * sz):w.cell? ⟨b,k,none⟩=cells[k]?:=by
 have hl:k<cells.length:=by rw[h.1];exact hk
 have:=h.cells hb k cells[k] (List.getElem?_eq_getElem hl)
 rw[Addr.add_lit,Nat.zero_add]at this
 rw[this,List.getElem?_eq_getElem hl]
theorem ownsRow_slice{e:TypeId}{sz n:Nat}{v:Value}{cells:List Value}(h:w.ownsRow 0 e sz v n cells):∃A c,v=.slice A n c∧(0<n→∃b,A=some ⟨b,0,none⟩):=by
 rcases h.2 with⟨rfl,rfl⟩|⟨g,cap,cur,rfl,_⟩
 ·exact⟨none,0,rfl,fun h=>absurd h (by omega)⟩
 exact⟨_,_,rfl,fun _=>⟨g,rfl⟩⟩
theorem pushRow(hI:OInv E γ H Φ w){w':World}{v v':Value}{e:TypeId}{sz:Nat}{zs:List PV}{cells:List Value}(hown:w'.ownsRow 0 e sz v' zs.length cells)(hG:Grew w w' v v')(hv:v.ownBlock=none)
 (hrel:CellsRel Φ w cells (flat zs)) (hsz:∀z∈zs,z.cells.length=sz) (h0:0<sz) (fz:Bool):
 Steps1 E γ H Φ w (.vec H.length zs.length) (H++[.row e sz zs fz]) v' w':=by
 have hsame:∀b,b<w.heap.size→w'.heap[b]?=w.heap[b]?:=by
  rcases hG.way with⟨_,_,h⟩|⟨_,_,h⟩
  ·exact h
  exact fun b _=>h b (by rw[hv];simp)
 have hblk:∀b,v'.ownBlock=some b→w.heap.size≤b∧b<w'.heap.size:=by
  intro b hb
  rcases hG.way with⟨h,hlt,_⟩|⟨h,_,_⟩
  ·rw[h]at hb
   injection hb with hb
   omega
  rw[h,hv]at hb
  cases hb
 obtain⟨A,c,hvs,hA⟩:=ownsRow_slice hown
 have hfl:=flat_length hsz
 refine⟨γ++[⟨v',v'.ownBlock.toList⟩],fun b k=>Φ b k∨(fz=true∧v'.ownBlock=some b∧k<zs.length * sz),hI.pushObj hsame hG.size hG.os hG.tape hG.output (fun _ _ h=>.inl h) (fun b k h hb=>?_) (fun b k h=>?_) _ _ (fun b hb=>?_) (fun hE=>?_),?_⟩
 ·rcases h with h|⟨_,h,_⟩
  ·exact h
  have:=(hblk b h).1
  omega
 ·rcases h with h|⟨_,h,_⟩
  ·exact Nat.lt_of_lt_of_le (hI.phi b k h) hG.size
  exact(hblk b h).2
 ·exact hblk b (by simpa using hb)
 ·refine⟨cells,hown,hrel.1,fun k u c hu hc=>(hrel.2.2 k u c hu hc).mono (fun _ _ h=>.inl h) hE.cell,hsz,hrel.2.1,rfl,h0,fun b hb k=>⟨fun h=>?_,fun hf hk=>.inr ⟨hf,hb,hk⟩⟩⟩
  rcases h with h|⟨hf,_,hk⟩
  ·have h1:=hI.phi b k h
   have h2:=(hblk b hb).1
   omega
  exact⟨hf,hk⟩
 rw[hvs]
 refine .vec A _ _ c e sz zs.length (rowAt_row (fz:=fz) (by simp)) (Nat.le_refl _) hA (fun _=>?_)
 unfold gv
 rw[←hI.len]
 simp
theorem eappend_sound(hI:OInv E γ H Φ w){ty t:TypeId}{v u:Value}{x y r:AV}{H':List AObj}(hx:ARel γ H Φ w v x)(hy:ARel γ H Φ w u y)(h:eappend E H ty x y=some (r,H')):
 ∃v' w',(Builtin.append_ #[ty,ty] t #[v,u]).run E.P w=.ok v' w'∧Steps1 E γ H Φ w r H' v' w':=by
 unfold eappend at h
 split at h
 ·rename_i e _ _ _ hT
  split at h
  ·rename_i te ys hTe hpv
   split at h
   ·rename_i hc
    obtain⟨hs0,hb0,hzs,hall⟩:=hc
    obtain⟨d,hd,hk⟩:=(E.hT _ _ hT).und
    rw[tk_slice hk]at hd
    obtain⟨i,d',hi,his,hib,hd',hk',hz⟩:=(E.hT _ _ hTe).info
    obtain⟨z,hzz⟩:=Option.isSome_iff_exists.1 hzs
    obtain⟨zv,hzv,hzl,hzn,_⟩:=hz z hzz
    have hzc:zv.cells.size=i.size:=by rw[his,←hzn,←hzl];simp
    have hysz:∀q∈ys,q.cells.length=i.size:=fun q hq=>by
     have:=List.all_eq_true.1 hall q hq
     rw[his]
     simpa using this
    obtain⟨news,hsrc,hnr⟩:=src_of_rep (toPV_rep hI hy hpv) hysz
    have small:∀n:Nat,n * te.bytes≤140737488355328→n≤maxLen:=fun n hn=>by
     have:n≤n * te.bytes:=Nat.le_mul_of_pos_right _ (by omega)
     unfold maxLen
     omega
    split at h
    ·split at h
     ·rename_i hbd
      simp only[Option.some.injEq,Prod.mk.injEq]at h
      obtain⟨rfl,rfl⟩:=h
      cases hx with
      | nils=>
        obtain⟨v',w',hrun,hown,hG,_⟩:=append_own (P:=E.P) (w:=w) ty t e i zv hd hi hzv hzc (.slice none 0 0) 0 [] (World.ownsRow_nil w 0 e i.size) u ys.length news hsrc (by rw[Nat.zero_add];exact small _ hbd) (by rw[Nat.zero_add,hib];exact hbd)
        rw[Nat.zero_add,List.nil_append]at hown
        refine⟨v',w',hrun,?_⟩
        rw[←his]
        exact pushRow hI hown hG rfl hnr hysz (by omega) (!E.nfz ty)
     cases h
    ·split at h
     ·rename_i hbd
      simp only[Option.some.injEq,Prod.mk.injEq]at h
      obtain⟨rfl,rfl⟩:=h
      cases arel_pv hx with
      | snil=>
        obtain⟨v',w',hrun,hown,hG,_⟩:=append_own (P:=E.P) (w:=w) ty t e i zv hd hi hzv hzc (.slice none 0 0) 0 [] (World.ownsRow_nil w 0 e i.size) u ys.length news hsrc (by rw[Nat.zero_add];exact small _ hbd) (by rw[Nat.zero_add,hib];exact hbd)
        rw[Nat.zero_add,List.nil_append]at hown
        refine⟨v',w',hrun,?_⟩
        rw[←his]
        exact pushRow hI hown hG rfl hnr hysz (by omega) (!E.nfz ty)
     cases h
    ·rename_i xs
     split at h
     ·rename_i hbd
      obtain⟨hbd,hne,hxall⟩:=hbd
      simp only[Option.some.injEq,Prod.mk.injEq]at h
      obtain⟨rfl,rfl⟩:=h
      have hxsz:∀q∈xs,q.cells.length=i.size:=fun q hq=>by
       have:=List.all_eq_true.1 hxall q hq
       rw[his]
       simpa using this
      cases hx with
      | full A n xs hrx=>
        obtain⟨olds,hxsrc,hxr⟩:=src_of_rep hrx hxsz
        have hn:n=xs.length:=by
         cases hrx with
         | sliceNil=>rfl
         | sliceAny A cap hm=>rfl
         | slice b o len cap sz xs vs hl _ _ _ _ _ _=>exact hl.symm
        subst hn
        have hpos:0<ys.length:=by
         cases ys with
         | nil=>simp at hne
         | cons a b=>simp
        obtain⟨v',w',hrun,hown,hG⟩:=append_full (P:=E.P) (w:=w) ty t e i zv hd hi hzv hzc _ xs.length olds hxsrc ⟨A,rfl⟩ u ys.length news hsrc hpos (small _ hbd) (by rw[hib];exact hbd)
        refine⟨v',w',hrun,?_⟩
        have hlen:(xs++ys).length=xs.length+ys.length:=List.length_append
        rw[←his,←hlen]
        rw[←hlen]at hown
        refine pushRow hI hown hG rfl ?_ (fun q hq=>?_) (by omega) (!E.nfz ty)
        ·rw[flat_append]
         exact cellsRel_append hxr hnr
        rcases List.mem_append.1 hq with hq|hq
        ·exact hxsz q hq
        exact hysz q hq
     cases h
    ·rename_i l n
     split at h
     ·rename_i e' sz xs fz hH
      split at h
      ·rename_i hbd
       obtain⟨rfl,rfl,rfl,hbd⟩:=hbd
       simp only[Option.some.injEq,Prod.mk.injEq]at h
       obtain⟨rfl,rfl⟩:=h
       obtain⟨g,hg,hO⟩:=hI.gh hH
       have hO':=hO
       obtain⟨cells,hown,hcl,hrep,hsz,h1,hgo,h0,hphi⟩:=hO
       have hvg:v=g.v:=by
        cases hx with
        | vec A l n cap e0 sz0 len0 hrow hn hA hcur=>
          have hre:=rowAt_row hH
          rw[hrow]at hre
          injection hre with hre
          injection hre with _ hre
          injection hre with _ hxx
          have:=hcur hxx
          simp only[gv,hg,Option.map_some,Option.some.injEq]at this
          exact this.symm
       subst hvg
       rw[←his]at hown hsz hphi
       obtain⟨v',w',hrun,hown',hG,hsame⟩:=append_own (P:=E.P) (w:=w) ty t e' i zv hd hi hzv hzc g.v xs.length cells hown u ys.length news hsrc (small _ hbd) (by rw[hib];exact hbd)
       refine⟨v',w',hrun,?_⟩
       have hlen:(xs++ys).length=xs.length+ys.length:=List.length_append
       have hxsz:∀q∈xs++ys,q.cells.length=i.size:=fun q hq=>by
        rcases List.mem_append.1 hq with hq|hq
        ·exact hsz q hq
        exact hysz q hq
       have hmem:∀b,b∈g.own↔g.v.ownBlock=some b:=fun b=>by rw[hgo];simp
       have hblk:∀b,v'.ownBlock=some b→(b∈g.own∨w.heap.size≤b)∧b<w'.heap.size:=by
        intro b hb
        rcases hG.way with⟨h,hlt,_⟩|⟨h,hs,_⟩
        ·rw[h]at hb
         injection hb with hb
         exact⟨.inr (by omega),by omega⟩
        rw[h]at hb
        have:=(hmem b).2 hb
        exact⟨.inl this,Nat.lt_of_lt_of_le (hI.own l g hg b this).2 hG.size⟩
       have hmul:xs.length * i.size≤(xs.length+ys.length) * i.size:=Nat.mul_le_mul_right _ (by omega)
       have hcell:∀b k,Φ b k→b∈g.own→w'.cell? ⟨b,k,none⟩=w.cell? ⟨b,k,none⟩:=by
        intro b k hΦ hb
        have hob:=(hmem b).1 hb
        obtain⟨_,hk⟩:=(hphi b hob k).1 hΦ
        rcases hG.way with⟨_,_,hsm⟩|⟨hv',_,_⟩
        ·exact cell_of_heap (hsm b (hI.own l g hg b hb).2)
        rw[owns_cell hown' (b:=b) (by rw[hv'];exact hob) (by omega),owns_cell hown hob hk,List.getElem?_append_left (by rw[hown.1];exact hk)]
       obtain⟨A,c,hvs,hA⟩:=ownsRow_slice hown'
       obtain⟨A0,c0,hvs0,_⟩:=ownsRow_slice hown
       refine⟨γ.set l ⟨v',v'.ownBlock.toList⟩,fun b k=>Φ b k∨(fz=true∧v'.ownBlock=some b∧k<(xs.length+ys.length) * i.size),hI.setObj hH hg (fun b hb hn=>?_) hG.size hG.os hG.tape hG.output (fun _ _ h=>.inl h) (fun b k h hb hn=>?_) (fun b k h=>?_) hcell
        (fun b hb=>hblk b (by simpa using hb)) (.inr ⟨A0,_,c0,hvs0⟩) (rowLike_step (by rw[hlen];omega) (fun hx=>hsame (by rw[hlen]at hx;omega))) (fun hE=>?_),?_⟩
       ·rcases hG.way with⟨_,_,hsm⟩|⟨_,_,hsm⟩
        ·exact hsm b hb
        exact hsm b (fun hh=>hn ((hmem b).2 hh.symm))
       ·rcases h with h|⟨_,h,_⟩
        ·exact h
        rcases(hblk b h).1 with h1|h1
        ·exact absurd h1 hn
        omega
       ·rcases h with h|⟨_,h,_⟩
        ·exact Nat.lt_of_lt_of_le (hI.phi b k h) hG.size
        exact(hblk b h).2
       ·have hall:=cellsRel_append (Φ:=Φ) (w:=w) ⟨hcl,h1,hrep⟩ hnr
        rw[←flat_append]at hall
        have hall':=cellsRel_mono hall (Φ':=fun b k=>Φ b k∨(fz=true∧v'.ownBlock=some b∧k<(xs.length+ys.length) * i.size)) (fun _ _ h=>.inl h) hE.cell
        rw[←his]
        refine⟨cells++news,by rw[hlen];exact hown',hall'.1,hall'.2.2,hxsz,hall'.2.1,rfl,by omega,fun b hb k=>⟨fun h=>?_,fun hf hk=>.inr ⟨hf,hb,by rw[hlen]at hk;exact hk⟩⟩⟩
        rcases h with h|⟨hf,_,hk⟩
        ·rcases(hblk b hb).1 with hbo|hbo
         ·obtain⟨hf,hk⟩:=(hphi b ((hmem b).1 hbo) k).1 h
          exact⟨hf,by rw[hlen];omega⟩
         have:=hI.phi b k h
         omega
        exact⟨hf,by rw[hlen];exact hk⟩
       rw[hvs]
       have hlH:l<H.length:=(List.getElem?_eq_some_iff.1 hH).1
       have hlg:l<γ.length:=(List.getElem?_eq_some_iff.1 hg).1
       refine .vec A l _ c e' te.size (xs++ys).length (rowAt_row (fz:=fz) (by rw[List.getElem?_set_self hlH])) (by rw[hlen];exact Nat.le_refl _) hA (fun _=>?_)
       unfold gv
       rw[List.getElem?_set_self hlg]
       simp
      cases h
     cases h
    cases h
   cases h
  cases h
 cases h
end
end Go.Abs
