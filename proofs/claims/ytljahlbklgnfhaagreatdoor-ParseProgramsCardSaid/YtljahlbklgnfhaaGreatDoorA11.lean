import Derived.Test.YtljahlbklgnfhaaGreatDoorA9
import Derived.Laws.OwnMore
set_option linter.unusedVariables false
set_option linter.unusedSimpArgs false
set_option linter.defProp false
namespace Go.Abs
open Go.RowKit
structure Since(γ₀:List Gh)(Φ₀:Nat→Nat→Prop)(w₀:World)(γ:List Gh)(Φ:Nat→Nat→Prop)(w:World):Prop where
 os:w.os=w₀.os
 tape:w.tape=w₀.tape
 output:w.output=w₀.output
 size:w₀.heap.size≤w.heap.size
 foreign:∀b,b<w₀.heap.size→(∀ (i:Nat) g,γ₀[i]?=some g→b∉g.own)→w.heap[b]?=w₀.heap[b]?
 phi:∀b k,Φ b k→b<w₀.heap.size→(∀ (i:Nat) g,γ₀[i]?=some g→b∉g.own)→Φ₀ b k
 own:∀ (i:Nat) g,γ[i]?=some g→∀b∈g.own,w₀.heap.size≤b∨∃ (j:Nat) (g₀:Gh),γ₀[j]?=some g₀∧b∈g₀.own
theorem Since.refl(γ:List Gh)(Φ:Nat→Nat→Prop)(w:World):Since γ Φ w γ Φ w:=
 ⟨rfl,rfl,rfl,Nat.le_refl _,fun _ _ _=>rfl,fun _ _ h _ _=>h,fun i g hg _ hb=>.inr ⟨i,g,hg,hb⟩⟩
theorem Since.trans{γ₀ γ₁ γ₂:List Gh}{Φ₀ Φ₁ Φ₂:Nat→Nat→Prop}{w₀ w₁ w₂:World}(h:Since γ₀ Φ₀ w₀ γ₁ Φ₁ w₁)(k:Since γ₁ Φ₁ w₁ γ₂ Φ₂ w₂):Since γ₀ Φ₀ w₀ γ₂ Φ₂ w₂:=by
 have key:∀b,b<w₀.heap.size→(∀ (i:Nat) g,γ₀[i]?=some g→b∉g.own)→∀ (i:Nat) g,γ₁[i]?=some g→b∉g.own:=by
  intro b hb hn i g hg hm
  rcases h.own i g hg b hm with h1|⟨j,g₀,hj,hm'⟩
  ·omega
  exact hn j g₀ hj hm'
 refine⟨k.os.trans h.os,k.tape.trans h.tape,k.output.trans h.output,Nat.le_trans h.size k.size,fun b hb hn=>?_,fun b i hΦ hb hn=>?_,fun i g hg b hb=>?_⟩
 ·exact(k.foreign b (Nat.lt_of_lt_of_le hb h.size) (key b hb hn)).trans (h.foreign b hb hn)
 ·exact h.phi b i (k.phi b i hΦ (Nat.lt_of_lt_of_le hb h.size) (key b hb hn)) hb hn
 rcases k.own i g hg b hb with h1|⟨j,g₁,hj,hm⟩
 ·exact .inl (Nat.le_trans h.size h1)
 exact h.own j g₁ hj b hm
structure Ok(E:Env)(γ₀:List Gh)(H₀:List AObj)(Φ₀:Nat→Nat→Prop)(w₀:World)(γ:List Gh)(H:List AObj)(Φ:Nat→Nat→Prop)(w:World):Prop where
 inv:OInv E γ H Φ w
 evo:Evo γ₀ H₀ Φ₀ w₀ γ H Φ w
 since:Since γ₀ Φ₀ w₀ γ Φ w
theorem Ok.refl{E:Env}{γ:List Gh}{H:List AObj}{Φ:Nat→Nat→Prop}{w:World}(h:OInv E γ H Φ w):Ok E γ H Φ w γ H Φ w:=⟨h,.refl _ _ _ _,.refl _ _ _⟩
theorem Ok.trans{E:Env}{γ₀ γ₁ γ₂:List Gh}{H₀ H₁ H₂:List AObj}{Φ₀ Φ₁ Φ₂:Nat→Nat→Prop}{w₀ w₁ w₂:World}(h:Ok E γ₀ H₀ Φ₀ w₀ γ₁ H₁ Φ₁ w₁)(k:Ok E γ₁ H₁ Φ₁ w₁ γ₂ H₂ Φ₂ w₂):
 Ok E γ₀ H₀ Φ₀ w₀ γ₂ H₂ Φ₂ w₂:=⟨k.inv,h.evo.trans k.evo,h.since.trans k.since⟩
section
variable {E:Env}{γ γ':List Gh}{H H':List AObj}{Φ Φ':Nat→Nat→Prop}{w w':World}
theorem cell_of_heap{b k:Nat}(h:w'.heap[b]?=w.heap[b]?):w'.cell? ⟨b,k,none⟩=w.cell? ⟨b,k,none⟩:=World.cell?_of_block (a:=⟨b,k,none⟩) h
theorem Q0u{e:TypeId}{sz n:Nat}{v:Value}{cells:List Value}(h:w.ownsRow 0 e sz v n cells)(hb:∀b,v.ownBlock=some b→w'.heap[b]?=w.heap[b]?):w'.ownsRow 0 e sz v n cells:=by
 refine⟨h.1,?_⟩
 rcases h.2 with hn|⟨g,cap,cur,rfl,hg,hgg,rest⟩
 ·exact .inl hn
 exact .inr ⟨g,cap,cur,rfl,hg,(hb g rfl).trans hgg,rest⟩
theorem Q8x.keep{e:TypeId}{sz:Nat}{xs:List PV}{fz:Bool}{g:Gh}(hΦ:∀b k,Φ b k→Φ' b k)(hc:∀b k,Φ b k→w'.cell? ⟨b,k,none⟩=w.cell? ⟨b,k,none⟩)(hO:Q8x Φ w e sz xs fz g)(hblk:∀b∈g.own,w'.heap[b]?=w.heap[b]?)(hphi:∀b∈g.own,∀k,Φ' b k→Φ b k):
 Q8x Φ' w' e sz xs fz g:=by
 obtain⟨cells,hown,hcl,hrep,hsz,h1,ho,h0,hp⟩:=hO
 have hmem:∀b,g.v.ownBlock=some b→b∈g.own:=fun b hb=>by rw[ho,hb];simp
 exact⟨cells,Q0u hown (fun b hb=>hblk b (hmem b hb)),hcl,fun k v c hv hc'=>(hrep k v c hv hc').mono hΦ hc,hsz,h1,ho,h0,fun b hb k=>
  ⟨fun hk=>(hp b hb k).1 (hphi b (hmem b hb) k hk),fun hf hk=>hΦ _ _ ((hp b hb k).2 hf hk)⟩⟩
theorem ObjRel.keep(hE:Evo γ H Φ w γ' H' Φ' w'){o:AObj}{g:Gh}(hO:ObjRel E γ H Φ w o g)(hblk:∀b∈g.own,w'.heap[b]?=w.heap[b]?)(hphi:∀b∈g.own,∀k,Φ' b k→Φ b k):
 ObjRel E γ' H' Φ' w' o g:=by
 cases o with
 | var cs=>
   obtain⟨b,T,vs,hv,ho,hb,hl,hr,hn⟩:=hO
   exact⟨b,T,vs,hv,ho,(hblk b (by simp[ho])).trans hb,hl,fun k v c h1 h2=>⟨(hr k v c h1 h2).1,(hr k v c h1 h2).2.mono hE⟩,fun k hk=>hn.1 k (hphi b (by simp[ho]) k hk),hn.2⟩
 | row e sz xs fz=>
   obtain⟨cells,hown,hcl,hrep,hsz,h1,ho,h0,hp⟩:=hO
   have hmem:∀b,g.v.ownBlock=some b→b∈g.own:=fun b hb=>by rw[ho,hb];simp
   exact⟨cells,Q0u hown (fun b hb=>hblk b (hmem b hb)),hcl,fun k v c hv hc=>(hrep k v c hv hc).mono hE.phi hE.cell,hsz,h1,ho,h0,fun b hb k=>
    ⟨fun hk=>(hp b hb k).1 (hphi b (hmem b hb) k hk),fun hf hk=>hE.phi _ _ ((hp b hb k).2 hf hk)⟩⟩
 | map es=>
   obtain⟨b,ents,clock,hv,ho,hb,hs,hr,hn⟩:=hO
   exact⟨b,ents,clock,hv,ho,(hblk b (by simp[ho])).trans hb,hs,fun k x p hx hp=>⟨(hr k x p hx hp).1.mono hE.phi hE.cell,(hr k x p hx hp).2.mono hE.phi hE.cell⟩,fun k hk=>hn k (hphi b (by simp[ho]) k hk)⟩
 | bld s=>
   obtain⟨b,p,v,hv,ho,hp,hb,hown,hne,hn,hn2⟩:=hO
   have hmem:∀c,v.ownBlock=some c→c∈g.own:=fun c hc=>by rw[ho,hc];simp
   exact⟨b,p,v,hv,ho,hp,(hblk b (by simp[ho])).trans hb,Q0u hown (fun c hc=>hblk c (hmem c hc)),hne,fun k hk=>hn k (hphi b (by simp[ho]) k hk),fun c hc k hk=>hn2 c hc k (hphi c (hmem c hc) k hk)⟩
 | brow e s=>
   obtain⟨hown,ho,hn⟩:=hO
   have hmem:∀c,g.v.ownBlock=some c→c∈g.own:=fun c hc=>by rw[ho,hc];simp
   refine⟨⟨hown.1,hown.2.imp id fun⟨b,cap,cur,fz,hv,hb0,hb,r⟩=>⟨b,cap,cur,fz,hv,hb0,(hblk b (hmem b (by rw[hv];rfl))).trans hb,r⟩⟩,ho,fun c hc k hk=>hn c hc k (hphi c (hmem c hc) k hk)⟩
 | prn e1 s e2 sz xs=>
   obtain⟨b,v0,v1,v2,hv,ho,hnd,hb,h0,hn,hown,hn1,hR⟩:=hO
   have hm0:b∈g.own:=by rw[ho];simp
   have hm1:∀c,v1.ownBlock=some c→c∈g.own:=fun c hc=>by rw[ho,hc];simp
   have hm2:∀c,v2.ownBlock=some c→c∈g.own:=fun c hc=>by rw[ho,hc];simp
   refine⟨b,v0,v1,v2,hv,ho,hnd,(hblk b hm0).trans hb,h0,fun k hk=>hn k (hphi b hm0 k hk),⟨hown.1,hown.2.imp id fun⟨b,cap,cur,fz,hv,hb0,hb,r⟩=>⟨b,cap,cur,fz,hv,hb0,(hblk b (hm1 b (by rw[hv];rfl))).trans hb,r⟩⟩,fun c hc k hk=>hn1 c hc k (hphi c (hm1 c hc) k hk),?_⟩
   exact hR.keep hE.phi hE.cell (fun c hc=>hblk c (hm2 c (by simpa using hc))) (fun c hc=>hphi c (hm2 c (by simpa using hc)))
 | iter s p=>
   obtain⟨b,hv,ho,hb,hn⟩:=hO
   exact⟨b,hv,ho,(hblk b (by simp[ho])).trans hb,fun k hk=>hn k (hphi b (by simp[ho]) k hk)⟩
 | tree e sz off e2 sz2 m xs=>
   obtain⟨cells,gs,hown,hcl,hsz,h1,h0,hoff,hn,hgl,hm,ho,hnd,hrep,hin⟩:=hO
   have hmem:∀b,g.v.ownBlock=some b→b∈g.own:=fun b hb=>by rw[ho,hb];simp
   have hmem2:∀ (i:Nat) gi,gs[i]?=some gi→∀b∈gi.own,b∈g.own:=fun i gi hi b hb=>by
    rw[ho]
    exact List.mem_append_right _ (List.mem_flatMap.2 ⟨gi,List.mem_of_getElem? hi,hb⟩)
   exact⟨cells,gs,Q0u hown (fun b hb=>hblk b (hmem b hb)),hcl,hsz,h1,h0,hoff,fun b hb k hk=>hn b hb k (hphi b (hmem b hb) k hk),hgl,hm,ho,hnd,
    fun k v c hv hc hk=>(hrep k v c hv hc hk).mono hE.phi hE.cell,fun i gi hi=>by
     obtain⟨ys,hy,hcg,hR⟩:=hin i gi hi
     exact⟨ys,hy,hcg,hR.keep hE.phi hE.cell (fun b hb=>hblk b (hmem2 i gi hi b hb)) (fun b hb=>hphi b (hmem2 i gi hi b hb))⟩⟩
 | hrow e sz xs j off l n=>
   obtain⟨cells,hown,hcl,hsz,h1,ho,h0,hoff,hj,hn,hrep,hh⟩:=hO
   have hmem:∀b,g.v.ownBlock=some b→b∈g.own:=fun b hb=>by rw[ho,hb];simp
   exact⟨cells,Q0u hown (fun b hb=>hblk b (hmem b hb)),hcl,hsz,h1,ho,h0,hoff,hj,fun b hb k hk=>hn b hb k (hphi b (hmem b hb) k hk),
    fun k v c hv hc hk=>(hrep k v c hv hc hk).mono hE.phi hE.cell,fun v hv=>(hh v hv).mono hE⟩
 | moved e sz n=>trivial
 | hold d=>exact hO
 | gone=>trivial
theorem Q8s{g:Gh}{l:Nat}(h:l<γ.length):gv (γ++[g]) l=gv γ l:=by
 unfold gv
 rw[List.getElem?_append_left h]
theorem Z1c{l:Nat}{v:Value}(h:gv γ l=some v):∃g,γ[l]?=some g∧g.v=v:=by
 unfold gv at h
 obtain⟨g,hg,hv⟩:=Option.map_eq_some_iff.1 h
 exact⟨g,hg,hv⟩
theorem OInv.grow(hI:OInv E γ H Φ w)(hw:∀b,b<w.heap.size→w'.heap[b]?=w.heap[b]?)(hs:w.heap.size≤w'.heap.size)(hos:w'.os=w.os)(htp:w'.tape=w.tape)(hout:w'.output=w.output)
 (hΦ:∀b k,Φ b k→Φ' b k) (hΦn:∀b k,Φ' b k→b<w.heap.size→Φ b k) (hΦl:∀b k,Φ' b k→b<w'.heap.size):Ok E γ H Φ w γ H Φ' w':=by
 have hE:Evo γ H Φ w γ H Φ' w':=⟨hΦ,fun b k h=>cell_of_heap (hw b (hI.phi b k h)),fun _ _ h=>.inl h,fun l e sz n h=>⟨n,h,Nat.le_refl _,fun _=>rfl⟩⟩
 refine⟨⟨hI.len,fun l o g ho hg=>?_,hI.disj,fun i g hg b hb=>⟨(hI.own i g hg b hb).1,Nat.lt_of_lt_of_le (hI.own i g hg b hb).2 hs⟩,hΦl,E.hG w w' hI.gi (fun b hb=>hw b (Nat.lt_of_lt_of_le hb hI.gn)),Nat.le_trans hI.gn hs⟩,hE,
  ⟨hos,htp,hout,hs,fun b hb _=>hw b hb,fun b k h hb _=>hΦn b k h hb,fun i g hg b hb=>.inr ⟨i,g,hg,hb⟩⟩⟩
 exact(hI.obj l o g ho hg).keep hE (fun b hb=>hw b (hI.own l g hg b hb).2) (fun b hb k hk=>hΦn b k hk (hI.own l g hg b hb).2)
theorem OInv.pushObj(hI:OInv E γ H Φ w)(hw:∀b,b<w.heap.size→w'.heap[b]?=w.heap[b]?)(hs:w.heap.size≤w'.heap.size)(hos:w'.os=w.os)(htp:w'.tape=w.tape)(hout:w'.output=w.output)
 (hΦ:∀b k,Φ b k→Φ' b k) (hΦn:∀b k,Φ' b k→b<w.heap.size→Φ b k) (hΦl:∀b k,Φ' b k→b<w'.heap.size) (g:Gh) (o:AObj)
 (hown:∀b∈g.own,w.heap.size≤b∧b<w'.heap.size) (hO:Evo γ H Φ w (γ++[g]) (H++[o]) Φ' w'→ObjRel E (γ++[g]) (H++[o]) Φ' w' o g):Ok E γ H Φ w (γ++[g]) (H++[o]) Φ' w':=by
 have hE:Evo γ H Φ w (γ++[g]) (H++[o]) Φ' w':=by
  refine⟨hΦ,fun b k h=>cell_of_heap (hw b (hI.phi b k h)),fun l v h=>.inl ?_,fun l e sz n h=>⟨n,?_,Nat.le_refl _,fun _=>?_⟩⟩
  ·obtain⟨g',hg',_⟩:=Z1c h
   rw[Q8s (List.getElem?_eq_some_iff.1 hg').1]
   exact h
  ·unfold rowAt
   rw[List.getElem?_append_left (Q6i h)]
   exact h
  rw[Q8s (by rw[hI.len];exact Q6i h)]
 have old:∀ (i:Nat) x,(γ++[g])[i]?=some x→(i<γ.length∧γ[i]?=some x)∨(i=γ.length∧x=g):=by
  intro i x hx
  by_cases hi:i<γ.length
  ·rw[List.getElem?_append_left hi]at hx
   exact .inl ⟨hi,hx⟩
  rw[List.getElem?_append_right (by omega)]at hx
  have h0:i-γ.length=0:=by
   have:=(List.getElem?_eq_some_iff.1 hx).1
   simp at this
   omega
  rw[h0]at hx
  simp only[List.getElem?_cons_zero,Option.some.injEq]at hx
  exact .inr ⟨by omega,hx.symm⟩
 refine⟨⟨by simp[hI.len],fun l o' g' ho hg=>?_,fun i j gi gj hi hj hij b hb=>?_,fun i x hx b hb=>?_,hΦl,E.hG w w' hI.gi (fun b hb=>hw b (Nat.lt_of_lt_of_le hb hI.gn)),Nat.le_trans hI.gn hs⟩,hE,
  ⟨hos,htp,hout,hs,fun b hb _=>hw b hb,fun b k h hb _=>hΦn b k h hb,fun i x hx b hb=>?_⟩⟩
 ·rcases old l g' hg with⟨hl,hg'⟩|⟨hl,rfl⟩
  ·rw[List.getElem?_append_left (by rw[←hI.len];exact hl)]at ho
   exact(hI.obj l o' g' ho hg').keep hE (fun b hb=>hw b (hI.own l g' hg' b hb).2) (fun b hb k hk=>hΦn b k hk (hI.own l g' hg' b hb).2)
  rw[hl,hI.len,List.getElem?_append_right (Nat.le_refl _)]at ho
  simp only[Nat.sub_self,List.getElem?_cons_zero,Option.some.injEq]at ho
  rw[←ho]
  exact hO hE
 ·rcases old i gi hi with⟨hi1,hi'⟩|⟨hi1,rfl⟩<;>rcases old j gj hj with⟨hj1,hj'⟩|⟨hj1,rfl⟩
  ·exact hI.disj i j gi gj hi' hj' hij b hb
  ·intro hm
   have h1:=(hI.own i gi hi' b hb).2
   have h2:=(hown b hm).1
   omega
  ·intro hm
   have h1:=(hI.own j gj hj' b hm).2
   have h2:=(hown b hb).1
   omega
  omega
 ·rcases old i x hx with⟨_,hx'⟩|⟨_,rfl⟩
  ·exact⟨(hI.own i x hx' b hb).1,Nat.lt_of_lt_of_le (hI.own i x hx' b hb).2 hs⟩
  exact⟨Nat.le_trans hI.gn (hown b hb).1,(hown b hb).2⟩
 rcases old i x hx with⟨_,hx'⟩|⟨_,rfl⟩
 ·exact .inr ⟨i,x,hx',hb⟩
 exact .inl (hown b hb).1
theorem Z0w{α:Type}{xs:List α}{l i:Nat}{x y:α}(h:(xs.set l x)[i]?=some y):(i=l∧y=x∧l<xs.length)∨(i≠l∧xs[i]?=some y):=by
 by_cases hi:i=l
 ·subst hi
  have hl:i<xs.length:=by
   have:=(List.getElem?_eq_some_iff.1 h).1
   simpa using this
  rw[List.getElem?_set_self hl]at h
  simp only[Option.some.injEq]at h
  exact .inl ⟨rfl,h.symm,hl⟩
 rw[List.getElem?_set_ne (Ne.symm hi)]at h
 exact .inr ⟨hi,h⟩
theorem Q7c{e:TypeId}{sz:Nat}{xs xs':List PV}{fz fz':Bool}{v v':Value}(h1:xs.length≤xs'.length)(h2:xs.length=xs'.length→v'=v):
 ∀e1 sz1 n1,Q1l (.row e sz xs fz)=some (e1,sz1,n1)→∃n',Q1l (.row e sz xs' fz')=some (e1,sz1,n')∧n1≤n'∧(n1=n'→v'=v):=by
 intro e1 sz1 n1 h
 simp only[Q1l,Option.some.injEq,Prod.mk.injEq]at h
 obtain⟨rfl,rfl,rfl⟩:=h
 exact⟨_,rfl,h1,h2⟩
theorem OInv.setObj(hI:OInv E γ H Φ w){l:Nat}{o o':AObj}{g g':Gh}(ho:H[l]?=some o)(hg:γ[l]?=some g)
 (hw:∀b,b<w.heap.size→b∉g.own→w'.heap[b]?=w.heap[b]?) (hs:w.heap.size≤w'.heap.size) (hos:w'.os=w.os) (htp:w'.tape=w.tape) (hout:w'.output=w.output)
 (hΦ:∀b k,Φ b k→Φ' b k) (hΦn:∀b k,Φ' b k→b<w.heap.size→b∉g.own→Φ b k) (hΦl:∀b k,Φ' b k→b<w'.heap.size)
 (hcell:∀b k,Φ b k→b∈g.own→w'.cell? ⟨b,k,none⟩=w.cell? ⟨b,k,none⟩)
 (hown:∀b∈g'.own,(b∈g.own∨w.heap.size≤b)∧b<w'.heap.size) (hv:g'.v=g.v∨∃A n c,g.v=.slice A n c)
 (hrow:∀e sz n,Q1l o=some (e,sz,n)→∃n',Q1l o'=some (e,sz,n')∧n≤n'∧(n=n'→g'.v=g.v))
 (hO:Evo γ H Φ w (γ.set l g') (H.set l o') Φ' w'→ObjRel E (γ.set l g') (H.set l o') Φ' w' o' g'):Ok E γ H Φ w (γ.set l g') (H.set l o') Φ' w':=by
 have hlg:l<γ.length:=(List.getElem?_eq_some_iff.1 hg).1
 have hlH:l<H.length:=(List.getElem?_eq_some_iff.1 ho).1
 have gvs:∀i,gv (γ.set l g') i=if i=l then some g'.v else gv γ i:=by
  intro i
  unfold gv
  by_cases hi:i=l
  ·subst hi
   rw[if_pos rfl,List.getElem?_set_self hlg]
   rfl
  rw[if_neg hi,List.getElem?_set_ne (Ne.symm hi)]
 have hgl:gv γ l=some g.v:=by
  unfold gv
  rw[hg]
  rfl
 have hE:Evo γ H Φ w (γ.set l g') (H.set l o') Φ' w':=by
  refine⟨hΦ,fun b k h=>?_,fun i v h=>?_,fun i e sz n h=>?_⟩
  ·by_cases hb:b∈g.own
   ·exact hcell b k h hb
   exact cell_of_heap (hw b (hI.phi b k h) hb)
  ·rw[gvs i]
   by_cases hi:i=l
   ·subst hi
    rw[hgl]at h
    simp only[Option.some.injEq]at h
    subst h
    rw[if_pos rfl]
    rcases hv with h1|h1
    ·exact .inl (by rw[h1])
    exact .inr h1
   rw[if_neg hi]
   exact .inl h
  by_cases hi:i=l
  ·subst hi
   unfold rowAt at h
   rw[ho,Option.bind_some]at h
   obtain⟨n',h1,h2,h3⟩:=hrow e sz n h
   refine⟨n',?_,h2,fun hx=>?_⟩
   ·unfold rowAt
    rw[List.getElem?_set_self hlH,Option.bind_some,h1]
   rw[gvs i,if_pos rfl,hgl,h3 hx]
  refine⟨n,?_,Nat.le_refl _,fun _=>?_⟩
  ·unfold rowAt
   rw[List.getElem?_set_ne (Ne.symm hi)]
   exact h
  rw[gvs i,if_neg hi]
 refine⟨⟨by simp[hI.len],fun i x y hx hy=>?_,fun i j gi gj hi hj hij b hb=>?_,fun i x hx b hb=>?_,hΦl,
  E.hG w w' hI.gi (fun b hb=>hw b (Nat.lt_of_lt_of_le hb hI.gn) (fun hm=>by have:=(hI.own l g hg b hm).1;omega)),Nat.le_trans hI.gn hs⟩,hE,
  ⟨hos,htp,hout,hs,fun b hb hn=>hw b hb (hn l g hg),fun b k h hb hn=>hΦn b k h hb (hn l g hg),fun i x hx b hb=>?_⟩⟩
 ·rcases Z0w hy with⟨rfl,rfl,_⟩|⟨hi,hy'⟩
  ·rw[List.getElem?_set_self hlH]at hx
   simp only[Option.some.injEq]at hx
   subst hx
   exact hO hE
  rw[List.getElem?_set_ne (Ne.symm hi)]at hx
  have hd:∀b∈y.own,b∉g.own:=hI.disj i l y g hy' hg hi
  exact(hI.obj i x y hx hy').keep hE (fun b hb=>hw b (hI.own i y hy' b hb).2 (hd b hb)) (fun b hb k hk=>hΦn b k hk (hI.own i y hy' b hb).2 (hd b hb))
 ·rcases Z0w hi with⟨rfl,rfl,_⟩|⟨hi',hi1⟩<;>rcases Z0w hj with⟨rfl,rfl,_⟩|⟨hj',hj1⟩
  ·exact absurd rfl hij
  ·intro hm
   rcases(hown b hb).1 with h1|h1
   ·exact hI.disj i j g gj hg hj1 hij b h1 hm
   have:=(hI.own j gj hj1 b hm).2
   omega
  ·intro hm
   rcases(hown b hm).1 with h1|h1
   ·exact hI.disj i j gi g hi1 hg hij b hb h1
   have:=(hI.own i gi hi1 b hb).2
   omega
  exact hI.disj i j gi gj hi1 hj1 hij b hb
 ·rcases Z0w hx with⟨rfl,rfl,_⟩|⟨hi,hx'⟩
  ·refine⟨?_,(hown b hb).2⟩
   rcases(hown b hb).1 with h1|h1
   ·exact(hI.own i g hg b h1).1
   exact Nat.le_trans hI.gn h1
  exact⟨(hI.own i x hx' b hb).1,Nat.lt_of_lt_of_le (hI.own i x hx' b hb).2 hs⟩
 rcases Z0w hx with⟨rfl,rfl,_⟩|⟨hi,hx'⟩
 ·rcases(hown b hb).1 with h1|h1
  ·exact .inr ⟨i,g,hg,h1⟩
  exact .inl h1
 exact .inr ⟨i,x,hx',hb⟩
end
end Go.Abs
namespace Go.Abs
open Go.RowKit
def zAV:PV→AV
 | .slice []=>.nils
 | p=>.pv p
def J0u(E:Env)(H:List AObj)(ty:TypeId):Option (AV×List AObj):=
 if E.bT=some ty then some (.ref H.length 0,H++[.bld []])
 else if E.pT=some ty then some (.ref H.length 0,H++[.prn E.pe1 [] E.pe2 E.psz []])
 else match E.T ty with
  | some ti=>match ti.zero with
    | some z=>some (.ref H.length 0,H++[.var (z.map zAV)])
    | none=>none
  | none=>none
def ebox(H:List AObj)(x:AV):Option (AV×List AObj):=
 match x with
 | .pv p=>some (.ref H.length 0,H++[.var (p.cells.map AV.pv)])
 | .vec l n=>some (.ref H.length 0,H++[.var [.vec l n]])
 | .ref l o=>some (.ref H.length 0,H++[.var [.ref l o]])
 | .mref l=>some (.ref H.length 0,H++[.var [.mref l]])
 | .nils=>some (.ref H.length 0,H++[.var [.nils]])
 | .full xs=>some (.ref H.length 0,H++[.var [.full xs]])
 | .agg cs=>if noS cs=true then some (.ref H.length 0,H++[.var cs])else none
 | _=>none
def Q5h(H:List AObj):List AV→Option (List PV)
 | []=>some []
 | a::r=>match toPV H a,Q5h H r with
   | some p,some s=>some (p::s)
   | _,_=>none
theorem Q9i{H:List AObj}:∀ {az:List AV} {ps:List PV},Q5h H az=some ps→az.length=ps.length∧∀ (i:Nat) a p,az[i]?=some a→ps[i]?=some p→toPV H a=some p
 | [],ps,h=>by
   simp only[Q5h,Option.some.injEq]at h
   subst h
   exact⟨rfl,fun i a p ha=>by simp at ha⟩
 | a::az,ps,h=>by
   simp only[Q5h]at h
   split at h
   ·rename_i p s hp hs
    simp only[Option.some.injEq]at h
    subst h
    obtain⟨h1,h2⟩:=Q9i hs
    refine⟨by simp[h1],fun i b q hb hq=>?_⟩
    cases i with
    | zero=>simp only[List.getElem?_cons_zero,Option.some.injEq]at hb hq;subst hb hq;exact hp
    | succ i=>rw[List.getElem?_cons_succ]at hb hq;exact h2 i b q hb hq
   cases h
def Q8m(H:List AObj):AV→Option PV
 | .pv p=>some p
 | .nils=>some (.slice [])
 | .full xs=>some (.slice xs)
 | .vec l n=>toPV H (.vec l n)
 | .agg vs=>(Q5h H vs).map PV.agg
 | _=>none
def Q7p(H:List AObj)(sz:Nat):Nat→List (Nat×AV)→Option (List PV)
 | _,[]=>some []
 | i,(j,v)::r=>if i=j then match Q8m H v with
    | some p=>if p.cells.length=sz then(Q7p H sz (i+1) r).map (p::·)else none
    | none=>none
   else none
def Q2o(E:Env)(H:List AObj)(ty:TypeId)(len:Nat)(parts:List (Nat×AV)):Option (AV×List AObj):=
 match E.T ty with
 | some ⟨.slice e,_,_,_⟩=>match E.T e with
   | some te=>if parts.length=len∧len * te.size≤16777216∧te.zero.isSome=true∧te.size≠0 then match Q7p H te.size 0 parts with
      | some xs=>some (.full xs,H)
      | none=>none
     else none
   | none=>none
 | _=>none
section
variable {E:Env}{γ:List Gh}{H:List AObj}{Φ:Nat→Nat→Prop}{w:World}
def Q6w(E:Env)(γ:List Gh)(H:List AObj)(Φ:Nat→Nat→Prop)(w:World)(r:AV)(H':List AObj)(u:Value)(w':World):Prop:=
 ∃γ' Φ',Ok E γ H Φ w γ' H' Φ' w'∧ARel γ' H' Φ' w' u r
theorem Q2h(o:Obj)(b:Nat)(hb:b<w.heap.size):(w.alloc o).heap[b]?=w.heap[b]?:=heap_alloc_old w o b hb
theorem J7r(p:PV):(zAV p).isS=false:=by unfold zAV;split<;>rfl
theorem J1l{v:Value}{p:PV}(h:Zero1 v p){γ:List Gh}{H:List AObj}{Φ:Nat→Nat→Prop}{w:World}:ARel γ H Φ w v (zAV p):=by
 unfold zAV
 split
 ·rw[h.2.2 rfl]
  exact .nils
 exact .pv (h.2.1 Φ w)
theorem Q5b(hI:OInv E γ H Φ w)(t:TypeId)(vs:List Value)(cs:List AV)(hl:vs.length=cs.length)
 (hr:∀ (k:Nat) v c,vs[k]?=some v→cs[k]?=some c→v.oneCell'=true∧∀γ' H' Φ' w',Evo γ H Φ w γ' H' Φ' w'→ARel γ' H' Φ' w' v c) (hns:∀c∈cs,c.isS=false):
 Q6w E γ H Φ w (.ref H.length 0) (H++[.var cs]) (.pointer (some ⟨w.heap.size,0,none⟩)) (w.alloc (.cells ⟨vs⟩ t)):=by
 have hnew:(w.alloc (.cells ⟨vs⟩ t)).heap[w.heap.size]?=some (.cells ⟨vs⟩ t (0,0)):=heap_alloc_new w _
 refine⟨_,Φ,hI.pushObj (fun b hb=>Q2h _ b hb) (by simp) rfl rfl rfl (fun _ _ h=>h) (fun _ _ h _=>h) (fun b k h=>Nat.lt_of_lt_of_le (hI.phi b k h) (by simp)) ⟨.pointer (some ⟨w.heap.size,0,none⟩),[w.heap.size]⟩ (.var cs)
  (fun b hb=>by simp at hb;subst hb;exact⟨Nat.le_refl _,by simp⟩) (fun hE=>⟨w.heap.size,t,vs,rfl,rfl,hnew,hl,fun k v c hv hc=>⟨(hr k v c hv hc).1,(hr k v c hv hc).2 _ _ _ _ hE⟩,fun k hk=>?_,fun c hc hs=>by rw[hns c hc]at hs;cases hs⟩),.ref _ _ _ ?_⟩
 ·have:=hI.phi _ k hk
  omega
 unfold gv
 rw[←hI.len]
 simp
theorem J0t(hI:OInv E γ H Φ w){ty:TypeId}{r:AV}{H':List AObj}(h:J0u E H ty=some (r,H')):
 ∃u w',(Instr.alloc ty true (.tuple #[])).run E.P w=.ok u w'∧Q6w E γ H Φ w r H' u w':=by
 unfold J0u at h
 split at h
 ·rename_i hty
  simp only[Option.some.injEq,Prod.mk.injEq]at h
  obtain⟨rfl,rfl⟩:=h
  have hz:=E.hbT ty hty w
  have hnew:(w.alloc (.cells #[.pointer none,.slice none 0 0] ty)).heap[w.heap.size]?=some (.cells #[.pointer none,.slice none 0 0] ty (0,0)):=heap_alloc_new w _
  refine⟨.pointer (some ⟨w.heap.size,0,none⟩),w.alloc (.cells #[.pointer none,.slice none 0 0] ty),?_,_,Φ,
   hI.pushObj (fun b hb=>Q2h _ b hb) (by simp) rfl rfl rfl (fun _ _ h=>h) (fun _ _ h _=>h) (fun b k h=>Nat.lt_of_lt_of_le (hI.phi b k h) (by simp)) ⟨.pointer (some ⟨w.heap.size,0,none⟩),[w.heap.size]⟩ (.bld [])
    (fun b hb=>by simp at hb;subst hb;exact⟨Nat.le_refl _,by simp⟩) (fun hE=>⟨w.heap.size,.pointer none,.slice none 0 0,rfl,rfl,.inl rfl,by rw[hty];exact hnew,World.ownsRow_nil _ _ _ _,by simp[Value.ownBlock],fun k hk=>?_,fun c hc=>by simp[Value.ownBlock]at hc⟩),.ref _ _ _ ?_⟩
  ·simp[Instr.alloc,hz,newVar,newRow,Value.cells]
  ·have:=hI.phi _ k hk
   omega
  unfold gv
  rw[←hI.len]
  simp
 split at h
 ·rename_i hty
  simp only[Option.some.injEq,Prod.mk.injEq]at h
  obtain⟨rfl,rfl⟩:=h
  have hz:=E.hpT ty hty w
  have hnew:(w.alloc (.cells #[.pointer none,.slice none 0 0,.slice none 0 0] ty)).heap[w.heap.size]?=some (.cells #[.pointer none,.slice none 0 0,.slice none 0 0] ty (0,0)):=heap_alloc_new w _
  refine⟨.pointer (some ⟨w.heap.size,0,none⟩),w.alloc (.cells #[.pointer none,.slice none 0 0,.slice none 0 0] ty),?_,_,Φ,
   hI.pushObj (fun b hb=>Q2h _ b hb) (by simp) rfl rfl rfl (fun _ _ h=>h) (fun _ _ h _=>h) (fun b k h=>Nat.lt_of_lt_of_le (hI.phi b k h) (by simp)) ⟨.pointer (some ⟨w.heap.size,0,none⟩),[w.heap.size]⟩ (.prn E.pe1 [] E.pe2 E.psz [])
    (fun b hb=>by simp at hb;subst hb;exact⟨Nat.le_refl _,by simp⟩) (fun hE=>⟨w.heap.size,.pointer none,.slice none 0 0,.slice none 0 0,rfl,rfl,by simp,by rw[hty];exact hnew,.inl rfl,fun k hk=>?_,World.ownsRowF_nil _ _ _ _,fun c hc=>by simp[Value.ownBlock]at hc,
      ⟨[],World.ownsRow_nil _ _ _ _,rfl,fun k v c hv _=>by simp at hv,fun z hz=>(by cases hz),fun c hc=>by simp[Q3k]at hc,rfl,E.hpz,fun b hb=>by cases hb⟩⟩),.ref _ _ _ ?_⟩
  ·simp[Instr.alloc,hz,newVar,newRow,Value.cells]
  ·have:=hI.phi _ k hk
   omega
  unfold gv
  rw[←hI.len]
  simp
 split at h
 ·rename_i ti hT
  split at h
  ·rename_i z hz
   simp only[Option.some.injEq,Prod.mk.injEq]at h
   obtain⟨rfl,rfl⟩:=h
   obtain⟨i,d,hi,hs,_,hd,hk,hzz⟩:=(E.hT _ _ hT).info
   obtain⟨zv,hzv,hzl,_,hzr,_⟩:=hzz z hz
   have hzrun:(zeroValue ty).run E.P w=.ok zv w:=by simp[zeroValue,typeInfo,hi,hzv]
   refine⟨_,_,?_,Q5b hI ty zv.cells.toList (z.map zAV) (by simpa using hzl) (fun k v c hv hc=>?_) (fun c hc=>by obtain⟨p,_,rfl⟩:=List.mem_map.1 hc;exact J7r p)⟩
   ·simp[Instr.alloc,hzrun,newVar,newRow]
   rw[List.getElem?_map]at hc
   obtain⟨p,hp,rfl⟩:=Option.map_eq_some_iff.1 hc
   have h1:=hzr k v p hv hp
   exact⟨(h1.2.1 Φ w).one h1.1,fun _ _ _ _ _=>J1l h1⟩
  cases h
 cases h
theorem J4o{v:Value}{a:AV}(h:ARel γ H Φ w v a)(ha:∀p,a≠.pv p)(ht:∀vs,a≠.tup vs)(hn:a≠.any)(hg:∀vs,a≠.agg vs):v.oneCell'=true:=by
 cases h<;>first|rfl|exact absurd rfl (ha _)|exact absurd rfl (ht _)|exact absurd rfl hn|exact absurd rfl (hg _)
theorem J7f(hI:OInv E γ H Φ w){ty:TypeId}{v:Value}{x r:AV}{H':List AObj}(hx:ARel γ H Φ w v x)(h:ebox H x=some (r,H')):
 ∃u w',(Instr.box ty v).run E.P w=.ok u w'∧Q6w E γ H Φ w r H' u w':=by
 have run:(Instr.box ty v).run E.P w=.ok (.pointer (some ⟨w.heap.size,0,none⟩)) (w.alloc (.cells v.cells ty)):=by simp[Instr.box,newVar,newRow]
 have single:v.cells=#[v]→(∀p,x≠.pv p)→(∀vs,x≠.tup vs)→x≠.any→(∀vs,x≠.agg vs)→x.isS=false→some (AV.ref H.length 0,H++[.var [x]])=some (r,H')→∃u w',(Instr.box ty v).run E.P w=.ok u w'∧Q6w E γ H Φ w r H' u w':=by
  intro hc h1 h2 h3 h5 h6 h4
  simp only[Option.some.injEq,Prod.mk.injEq]at h4
  obtain⟨rfl,rfl⟩:=h4
  refine⟨_,_,run,?_⟩
  rw[hc]
  exact Q5b hI ty [v] [x] rfl (fun k a c ha hcc=>by
   match k,ha,hcc with
   | 0,ha,hcc=>
     simp at ha hcc
     subst ha hcc
     exact⟨J4o hx h1 h2 h3 h5,fun _ _ _ _ hE=>hx.mono hE⟩
   | k+1,ha,hcc=>simp at ha) (fun c hc=>by rw[List.mem_singleton.1 hc];exact h6)
 cases hx with
 | @pv v p hp=>
   simp only[ebox,Option.some.injEq,Prod.mk.injEq]at h
   obtain⟨rfl,rfl⟩:=h
   obtain⟨hl,h1,hr⟩:=Q4g hp
   refine⟨_,_,run,Q5b hI ty v.cells.toList (p.cells.map AV.pv) (by simpa using hl) (fun k a c ha hc=>?_) (fun c hc=>by obtain⟨q,_,rfl⟩:=List.mem_map.1 hc;rfl)⟩
   rw[List.getElem?_map]at hc
   obtain⟨q,hq,rfl⟩:=Option.map_eq_some_iff.1 hc
   have hrep:=hr k a q ha hq
   exact⟨hrep.one (h1 q (List.mem_of_getElem? hq)),fun _ _ _ _ hE=>.pv (hrep.mono hE.phi hE.cell)⟩
 | vec=>exact single rfl (by simp) (by simp) (by simp) (by simp) rfl h
 | ref=>exact single rfl (by simp) (by simp) (by simp) (by simp) rfl h
 | mref=>exact single rfl (by simp) (by simp) (by simp) (by simp) rfl h
 | selfp=>simp[ebox]at h
 | nils=>exact single rfl (by simp) (by simp) (by simp) (by simp) rfl h
 | full=>exact single rfl (by simp) (by simp) (by simp) (by simp) rfl h
 | agg ws vs hl h1 hr=>
   simp only[ebox]at h
   split at h
   ·rename_i hns
    simp only[Option.some.injEq,Prod.mk.injEq]at h
    obtain⟨rfl,rfl⟩:=h
    exact⟨_,_,run,Q5b hI ty ws vs hl (fun k a c ha hc=>⟨h1 a (List.mem_of_getElem? ha),fun _ _ _ _ hE=>(hr k a c ha hc).mono hE⟩) (J2f hns)⟩
   cases h
 | any=>simp[ebox]at h
 | ifc=>simp[ebox]at h
 | pptr=>simp[ebox]at h
 | vptr=>simp[ebox]at h
 | tup=>simp[ebox]at h
 | fn=>simp[ebox]at h
theorem Q8b(e:TypeId)(cs:Array Value):(newRow e cs).run E.P w=.ok ⟨w.heap.size,0,none⟩ (w.alloc (.cells cs e)):=rfl
theorem J2p(sz:Nat):∀ (vparts:List (Nat×Value)) (i:Nat) (cs:Array Value),(∀ (j:Nat) p,vparts[j]?=some p→p.1=i+j∧p.2.cells.size=sz)→(i+vparts.length) * sz≤cs.size→
 ∃us,Instr.fill (fun i=>some (i * sz,sz)) cs vparts=some us∧us.size=cs.size∧us.toList.take ((i+vparts.length) * sz)=cs.toList.take (i * sz)++vparts.flatMap fun p=>p.2.cells.toList
 | [],i,cs,_,_=>⟨cs,rfl,rfl,by simp⟩
 | (i',v)::r,i,cs,hp,hs=>by
   obtain⟨he,hv⟩:=hp 0 (i',v) rfl
   simp only[Nat.add_zero]at he
   subst he
   have hv:v.cells.size=sz:=hv
   simp only[List.length_cons]at hs
   have hmul:i' * sz+sz≤cs.size:=by
    have:=Nat.mul_le_mul_right sz (show i'+1≤i'+(r.length+1) from by omega)
    rw[Nat.succ_mul]at this
    omega
   obtain⟨f1,f2⟩:=Z3d (i' * sz) v.cells.toList 0 cs (by simp only[Array.length_toList];omega)
   have hfold:v.cells.zipIdx.foldl (fun cs (c,j)=>cs.setIfInBounds (i' * sz+j) c) cs=(v.cells.toList.zipIdx 0).foldl (fun cs (c,j)=>cs.setIfInBounds (i' * sz+j) c) cs:=by
    rw[←Array.foldl_toList,Array.toList_zipIdx]
   have hstep:Instr.fill (fun i=>some (i * sz,sz)) cs ((i',v)::r)=Instr.fill (fun i=>some (i * sz,sz)) ((v.cells.toList.zipIdx 0).foldl (fun cs (c,j)=>cs.setIfInBounds (i' * sz+j) c) cs) r:=by
    rw[←hfold]
    simp only[Instr.fill]
    rw[if_neg]
    simp only[hv,ne_eq,not_true_eq_false,decide_false,Bool.false_or,decide_eq_true_eq]
    omega
   generalize hcs':(v.cells.toList.zipIdx 0).foldl (fun cs (c,j)=>cs.setIfInBounds (i' * sz+j) c) cs=cs' at hstep f1 f2
   obtain⟨us,hus,hsize,htake⟩:=J2p sz r (i'+1) cs' (fun j p hj=>by
    have:=hp (j+1) p (by simpa using hj)
    exact⟨by omega,this.2⟩) (by rw[f1,show i'+1+r.length=i'+(r.length+1) from by omega];exact hs)
   refine⟨us,by rw[hstep,hus],by rw[hsize,f1],?_⟩
   rw[List.length_cons,show i'+(r.length+1)=i'+1+r.length from by omega,htake,List.flatMap_cons,←List.append_assoc]
   congr 1
   refine List.ext_getElem? fun k=>?_
   have hvl:v.cells.toList.length=sz:=by simpa using hv
   have hlen:(cs.toList.take (i' * sz)).length=i' * sz:=by rw[List.length_take,Array.length_toList];omega
   rw[List.getElem?_take]
   by_cases hk:k<(i'+1) * sz
   ·rw[if_pos hk,Array.getElem?_toList,f2 k]
    rw[Nat.succ_mul]at hk
    by_cases hk2:i' * sz≤k
    ·rw[if_pos ⟨by omega,by omega⟩,List.getElem?_append_right (by omega),hlen]
     congr 1
    rw[if_neg (by omega),List.getElem?_append_left (by omega),List.getElem?_take,if_pos (by omega),Array.getElem?_toList]
   rw[if_neg hk]
   rw[Nat.succ_mul]at hk
   have hvl':((i',v).snd.cells.toList).length=sz:=hvl
   rw[List.getElem?_eq_none (by rw[List.length_append];omega)]
theorem Z9i(hI:OInv E γ H Φ w){v:Value}{a:AV}{p:PV}(h:ARel γ H Φ w v a)(hp:Q8m H a=some p):Rep Φ w v p:=by
 cases a with
 | agg vs=>
   simp only[Q8m]at hp
   obtain⟨ps,hps,rfl⟩:=Option.map_eq_some_iff.1 hp
   obtain⟨e1,e2⟩:=Q9i hps
   cases h with
   | agg ws vs hl h1 hr=>
     refine .agg ws ps (by omega) (fun c hc=>?_) (fun k u c hu hc=>?_)
     ·obtain⟨k,hk,rfl⟩:=List.getElem_of_mem hc
      have hv:vs[k]?=some (vs[k]'(by omega)):=List.getElem?_eq_getElem (by omega)
      have hw:ws[k]?=some (ws[k]'(by omega)):=List.getElem?_eq_getElem (by omega)
      have hrep:=Q1n hI (hr k _ _ hw hv) (e2 k _ _ hv (List.getElem?_eq_getElem hk))
      have h1c:=h1 _ (List.mem_of_getElem? hw)
      generalize ws[k]=u at hrep h1c
      generalize ps[k]=q at hrep
      cases hrep<;>first|rfl|(simp[Value.oneCell']at h1c)
     have hk:k<vs.length:=by
      have:=(List.getElem?_eq_some_iff.1 hc).1
      omega
     exact Q1n hI (hr k u _ hu (List.getElem?_eq_getElem hk)) (e2 k _ c (List.getElem?_eq_getElem hk) hc)
 | vec l n=>exact Q1n hI h hp
 | pv q=>exact Q1n hI h hp
 | nils=>exact Q1n hI h hp
 | full xs=>exact Q1n hI h hp
 | _=>simp[Q8m]at hp
theorem Q7o(hI:OInv E γ H Φ w)(sz:Nat):∀ (parts:List (Nat×AV)) (vparts:List (Nat×Value)) (i:Nat) (xs:List PV),vparts.length=parts.length→
 (∀ (j:Nat) (p:Nat×AV) (q:Nat×Value),parts[j]?=some p→vparts[j]?=some q→q.1=p.1∧ARel γ H Φ w q.2 p.2)→Q7p H sz i parts=some xs→
 xs.length=parts.length∧(∀x∈xs,x.cells.length=sz)∧(∀ (j:Nat) p,vparts[j]?=some p→p.1=i+j∧p.2.cells.size=sz)∧Q1f Φ w (vparts.flatMap fun p=>p.2.cells.toList) (flat xs)
 | [],vparts,i,xs,hl,_,h=>by
   simp only[Q7p,Option.some.injEq]at h
   subst h
   cases vparts with
   | nil=>exact⟨rfl,fun x hx=>(by cases hx),fun j p hp=>(by simp at hp),⟨rfl,fun c hc=>(by simp[Q3k]at hc),fun k v c hv _=>(by simp at hv)⟩⟩
   | cons a b=>simp at hl
 | (j,v)::parts,[],i,xs,hl,_,_=>by simp at hl
 | (j,v)::parts,(j',v')::vparts,i,xs,hl,hrel,h=>by
   simp only[Q7p]at h
   split at h
   ·rename_i hij
    subst hij
    split at h
    ·rename_i p hp
     split at h
     ·rename_i hsz
      obtain⟨ys,hys,rfl⟩:=Option.map_eq_some_iff.1 h
      obtain⟨he,hr⟩:=hrel 0 (i,v) (j',v') rfl rfl
      simp only at he
      subst he
      obtain⟨h1,h2,h3,h4⟩:=Q7o hI sz parts vparts (j'+1) ys (by simpa using hl) (fun j a b ha hb=>hrel (j+1) a b (by simpa using ha) (by simpa using hb)) hys
      obtain⟨c1,c2,c3⟩:=Q4g (Z9i hI hr hp)
      refine⟨by simp[h1],fun x hx=>?_,fun k q hq=>?_,⟨?_,fun c hc=>?_,fun k u c hu hc=>?_⟩⟩
      ·rcases List.mem_cons.1 hx with rfl|hx
       ·exact hsz
       exact h2 x hx
      ·cases k with
       | zero=>
         simp only[List.getElem?_cons_zero,Option.some.injEq]at hq
         subst hq
         exact⟨rfl,by rw[←hsz,←c1];simp⟩
       | succ k=>
         have:=h3 k q (by simpa using hq)
         exact⟨by omega,this.2⟩
      ·rw[List.flatMap_cons,Q3o,List.length_append,List.length_append,c1,h4.1]
      ·rw[Q3o]at hc
       rcases List.mem_append.1 hc with hc|hc
       ·exact c2 c hc
       exact h4.2.1 c hc
      rw[List.flatMap_cons]at hu
      rw[Q3o]at hc
      by_cases hk:k<p.cells.length
      ·rw[List.getElem?_append_left (by omega)]at hu
       rw[List.getElem?_append_left hk]at hc
       exact c3 k u c hu hc
      rw[List.getElem?_append_right (by omega)]at hu
      rw[List.getElem?_append_right (by omega)]at hc
      exact h4.2.2 _ u c (by rw[←c1];exact hu) hc
     cases h
    cases h
   cases h
theorem J2g(hI:OInv E γ H Φ w)(cs:Array Value)(e:TypeId)(n:Nat):
 Ok E γ H Φ w γ H (fun b k=>Φ b k∨(b=w.heap.size∧k<n)) (w.alloc (.cells cs e)):=by
 refine hI.grow (fun b hb=>Q2h _ b hb) (by simp) rfl rfl rfl (fun _ _ h=>.inl h) (fun b k h hb=>?_) (fun b k h=>?_)
 ·rcases h with h|⟨rfl,_⟩
  ·exact h
  omega
 rcases h with h|⟨rfl,_⟩
 ·exact Nat.lt_of_lt_of_le (hI.phi b k h) (by simp)
 simp
theorem Z1f(hI:OInv E γ H Φ w){ty:TypeId}{len:Nat}{parts:List (Nat×AV)}{vparts:Array (Nat×Value)}(hl:vparts.size=parts.length)
 (hrel:∀ (j:Nat) (p:Nat×AV) (q:Nat×Value),parts[j]?=some p→vparts[j]?=some q→q.1=p.1∧ARel γ H Φ w q.2 p.2) {r:AV} {H':List AObj} (h:Q2o E H ty len parts=some (r,H')):
 ∃u w',(Instr.buildSlice ty len vparts).run E.P w=.ok u w'∧Q6w E γ H Φ w r H' u w':=by
 unfold Q2o at h
 split at h
 ·rename_i e _ _ _ hT
  split at h
  ·rename_i te hTe
   split at h
   ·rename_i hc
    obtain⟨hpl,hbig,hzs,hs0⟩:=hc
    split at h
    ·rename_i xs hxs
     simp only[Option.some.injEq,Prod.mk.injEq]at h
     obtain⟨rfl,rfl⟩:=h
     obtain⟨d,hd,hk⟩:=(E.hT _ _ hT).und
     rw[Q3g hk]at hd
     obtain⟨i,d',hi,his,_,hd',hk',hz⟩:=(E.hT _ _ hTe).info
     obtain⟨z,hzz⟩:=Option.isSome_iff_exists.1 hzs
     obtain⟨zv,hzv,hzl,hzn,_⟩:=hz z hzz
     obtain⟨e1,e2,e3,e4⟩:=Q7o hI te.size parts vparts.toList 0 xs (by simpa using hl) (fun j p q hp hq=>hrel j p q hp (by simpa using hq)) hxs
     have hvl:vparts.toList.length=len:=by rw[Array.length_toList];omega
     generalize hbase:(Array.range (len * te.size)).map ((if len * te.size=0 then #[]else zv.cells)[· % (if len * te.size=0 then #[]else zv.cells).size]!)=base
     have hbs:base.size=len * te.size:=by rw[←hbase];simp
     obtain⟨us,hus,husz,hut⟩:=J2p te.size vparts.toList 0 base e3 (by rw[hvl,hbs];simp)
     have hul:us.toList=vparts.toList.flatMap fun p=>p.2.cells.toList:=by
      rw[Nat.zero_add,hvl,Nat.zero_mul,List.take_zero,List.nil_append,List.take_of_length_le (by simp[husz,hbs])]at hut
      exact hut
     have hfl:=Q0h e2
     have hmax:len≤maxLen:=by
      have:len≤len * te.size:=Nat.le_mul_of_pos_right _ (by omega)
      unfold maxLen
      omega
     refine⟨.slice (some ⟨w.heap.size,0,none⟩) len len,w.alloc (.cells us e),?_,γ,_,J2g hI us e (len * te.size),.full _ _ _ (.slice w.heap.size 0 len len te.size xs (fun k=>us.toList.getD k undef) (by omega) (Nat.le_refl _) hmax e2 e4.2.1 (fun k hk=>?_) (fun k c hc=>?_))⟩
     ·have hbig':¬ len * i.size>2 ^ 24:=by rw[his];omega
      unfold Instr.buildSlice
      simp only[bind,Sem.run_bind',run_underlying hd,Result.andThen_ok,Q1d hi,hbig',if_false]
      rw[his]
      have hz1:(zeroValue e).run E.P w=.ok zv w:=by simp[zeroValue,typeInfo,hi,hzv]
      by_cases hz0:len * te.size=0
      ·rw[if_pos hz0]at hbase ⊢
       simp only[Sem.run_bind',Sem.run_pure,Result.andThen_ok]
       rw[hbase,hus]
       simp only[Sem.run_bind',Q8b,Result.andThen_ok,Sem.run_pure]
      rw[if_neg hz0]at hbase ⊢
      simp only[Sem.run_bind',Sem.run_pure,Result.andThen_ok,hz1]
      rw[hbase,hus]
      simp only[Sem.run_bind',Q8b,Result.andThen_ok,Sem.run_pure]
     ·rw[hfl]at hk
      have hk':k<us.toList.length:=by rw[Array.length_toList,husz,hbs];rw[←hpl,←e1];exact hk
      refine⟨.inr ⟨rfl,by rw[Nat.zero_add,←hpl,←e1];exact hk⟩,?_⟩
      rw[Nat.zero_add,cell_of_row _ _ _ _ _ _ (heap_alloc_new w (.cells us e)),List.getD_eq_getElem?_getD,Array.getElem?_toList]
      rw[Array.length_toList]at hk'
      simp[Array.getElem?_eq_getElem hk']
     have hk:k<(flat xs).length:=(List.getElem?_eq_some_iff.1 hc).1
     have hk':k<us.toList.length:=by rw[hul,e4.1];exact hk
     rw[List.getD_eq_getElem?_getD,List.getElem?_eq_getElem hk']
     refine(e4.2.2 k _ c ?_ hc).mono (fun _ _ h=>.inl h) (fun b k h=>cell_of_heap (Q2h _ b (hI.phi b k h)))
     rw[←hul,List.getElem?_eq_getElem hk']
     rfl
    cases h
   cases h
  cases h
 cases h
end
end Go.Abs
