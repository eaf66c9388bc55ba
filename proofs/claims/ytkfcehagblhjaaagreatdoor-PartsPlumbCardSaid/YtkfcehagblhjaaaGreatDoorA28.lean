import Derived.Test.YtkfcehagblhjaaaGreatDoorA22
import Derived.ProofKit
import Derived.Deep.Slices
import Derived.LaidMore
import Derived.Lay
import Derived.Carry
import Derived.Below
set_option linter.unusedVariables false
set_option linter.unusedSimpArgs false
set_option linter.defProp false
namespace Go.Abs
open Go.RowKit
def sl:List (Nat×AV)→Nat→AV
 | [],_=>.any
 | (j,v)::r,i=>if i=j then v else sl r i
theorem sl_nil(i:Nat):sl [] i=.any:=rfl
theorem sl_cons(j:Nat)(v:AV)(r:List (Nat×AV))(i:Nat):sl ((j,v)::r) i=if i=j then v else sl r i:=rfl
theorem upd_sl(r:List (Nat×AV))(i:Nat)(v:AV):upd (sl r) i v=sl ((i,v)::r):=rfl
def enum:Nat→List AV→List (Nat×AV)
 | _,[]=>[]
 | n,a::r=>(n,a)::enum (n+1) r
theorem sl_enum:∀ (args:List AV) (n i:Nat),sl (enum n args) (n+i)=args.getD i .any
 | [],n,i=>by simp[enum,sl]
 | a::r,n,0=>by simp[enum,sl]
 | a::r,n,i+1=>by
   have h:=sl_enum r (n+1) i
   simp only[enum,sl]
   rw[if_neg (by omega)]
   simpa[Nat.add_comm,Nat.add_left_comm,Nat.add_assoc]using h
theorem entryT_sl(args:List AV):entryT args=sl (enum 0 args):=by
 funext i
 have h:=sl_enum args 0 i
 simpa[entryT]using h.symm
def keeps(t:Nat→AV):List (Nat×AV)→Prop
 | []=>True
 | (j,v)::r=>t j=v∧keeps t r
theorem keeps_nil(t:Nat→AV):keeps t []=True:=rfl
theorem keeps_cons(t:Nat→AV)(j:Nat)(v:AV)(r:List (Nat×AV)):keeps t ((j,v)::r)=(t j=v∧keeps t r):=rfl
theorem keeps_sl{t:Nat→AV}:∀ {L:List (Nat×AV)},keeps t L→∀i,sl L i=t i∨sl L i=.any
 | [],_,i=>.inr rfl
 | (j,v)::r,h,i=>by
   simp only[keeps]at h
   simp only[sl]
   split
   ·rename_i hi
    subst hi
    exact .inl h.1.symm
   exact keeps_sl h.2 i
section
variable {E:Env}{O:Orc}{σ σ':St}{k:Nat}{Q:Exit→St→Prop}
theorem put_n{d:Option Nat}{v:AV}{h:List AObj}(hp:put σ d v h=some σ'):σ'.n=σ.n:=by
 unfold put at hp
 split at hp
 ·simp only[Option.some.injEq]at hp
  subst hp
  rfl
 split at hp
 ·simp only[Option.some.injEq]at hp
  subst hp
  rfl
 cases hp
theorem astep_n{ops:Array Oper}{o:Oper}(h:astep E O ops σ o=some σ'):σ'.n=σ.n:=by
 unfold astep at h
 split at h
 ·obtain⟨r,_,hp⟩:=Option.bind_eq_some_iff.1 h
  exact put_n hp
 split at h
 ·split at h
  ·split at h
   ·obtain⟨r,_,hp⟩:=Option.bind_eq_some_iff.1 h
    exact put_n hp
   exact put_n h
  ·exact put_n h
  cases h
 cases h
theorem arun_n{ops:Array Oper}:∀ {l:List Oper} {σ:St},arun E O ops l σ=some σ'→σ'.n=σ.n
 | [],σ,h=>by
   simp only[arun,Option.some.injEq]at h
   subst h
   rfl
 | o::l,σ,h=>by
   obtain⟨σ1,h1,h2⟩:=Option.bind_eq_some_iff.1 h
   exact(arun_n h2).trans (astep_n h1)
def Leaves(L:List (Nat×AV))(h':List AObj):Option St→Prop
 | some σ=>keeps σ.t L∧σ.h=h'
 | none=>False
theorem leaves_some(L:List (Nat×AV))(h':List AObj)(σ:St):Leaves L h' (some σ)=(keeps σ.t L∧σ.h=h'):=rfl
theorem AW.reg(hS:Sound E O){id n:Nat}{t:Nat→AV}{h:List AObj}{ops:Array Oper}(L:List (Nat×AV))(h':List AObj)(hr:Leaves L h' (arun E O ops ops.toList ⟨t,n,h⟩))(hQ:Q .normal ⟨sl L,n,h'⟩):AW E k (.region id ops false) Q ⟨t,n,h⟩:=by
 generalize hx:arun E O ops ops.toList ⟨t,n,h⟩=x at hr
 cases x with
 | none=>exact hr.elim
 | some σ'=>
   have hn:=arun_n hx
   obtain⟨h1,h2⟩:=hr
   have hreg:AW E k (.region id ops false) (fun e σ''=>e=.normal∧σ''=σ') ⟨t,n,h⟩:=AW.region hS hx ⟨rfl,rfl⟩
   intro γ₀ H₀ Φ₀ w₀ a w hl hR
   refine wp_mono (hreg γ₀ H₀ Φ₀ w₀ a w hl hR) (fun e a' w' ⟨σ2,hR2,he,hσ⟩=>?_)
   subst he hσ
   have hw:Weak E k σ2 ⟨sl L,σ2.n,σ2.h⟩:=Weak.forget (keeps_sl h1)
   have hR3:=hw γ₀ H₀ Φ₀ w₀ a' w' hl hR2
   rw[hn,h2]at hR3
   exact⟨_,hR3,hQ⟩
theorem AW.dreg(hP:E.P.follows .mixedOrders=true)(hS:Sound E O){id n:Nat}{t:Nat→AV}{h:List AObj}{ops:Array Oper}(hok:orderOK O.pf ops=true)(L:List (Nat×AV))(h':List AObj)(hr:Leaves L h' (arun E O ops ops.toList ⟨t,n,h⟩))(hQ:Q .normal ⟨sl L,n,h'⟩):AW E k (.region id ops true) Q ⟨t,n,h⟩:=by
 generalize hx:arun E O ops ops.toList ⟨t,n,h⟩=x at hr
 cases x with
 | none=>exact hr.elim
 | some σ'=>
   have hn:=arun_n hx
   obtain⟨h1,h2⟩:=hr
   have hreg:AW E k (.region id ops true) (fun e σ''=>e=.normal∧σ''=σ') ⟨t,n,h⟩:=AW.drawn hP hS hok hx ⟨rfl,rfl⟩
   intro γ₀ H₀ Φ₀ w₀ a w hl hR
   refine wp_mono (hreg γ₀ H₀ Φ₀ w₀ a w hl hR) (fun e a' w' ⟨σ2,hR2,he,hσ⟩=>?_)
   subst he hσ
   have hw:Weak E k σ2 ⟨sl L,σ2.n,σ2.h⟩:=Weak.forget (keeps_sl h1)
   have hR3:=hw γ₀ H₀ Φ₀ w₀ a' w' hl hR2
   rw[hn,h2]at hR3
   exact⟨_,hR3,hQ⟩
theorem AW.dregB(hP:E.P.follows .mixedOrders=true)(hS:Sound E O){id n:Nat}{t:Nat→AV}{h:List AObj}{ops:Array Oper}(B:Bases)(hB:(B.all fun p=>baseB (t p.1) p.2)=true)(hok:orderOKB O.pf B ops=true)(L:List (Nat×AV))(h':List AObj)(hr:Leaves L h' (arun E O ops ops.toList ⟨t,n,h⟩))(hQ:Q .normal ⟨sl L,n,h'⟩):AW E k (.region id ops true) Q ⟨t,n,h⟩:=by
 generalize hx:arun E O ops ops.toList ⟨t,n,h⟩=x at hr
 cases x with
 | none=>exact hr.elim
 | some σ'=>
   have hn:=arun_n hx
   obtain⟨h1,h2⟩:=hr
   have hreg:AW E k (.region id ops true) (fun e σ''=>e=.normal∧σ''=σ') ⟨t,n,h⟩:=AW.drawnB hP hS hok (fun p hp=>List.all_eq_true.1 hB p hp) hx ⟨rfl,rfl⟩
   intro γ₀ H₀ Φ₀ w₀ a w hl hR
   refine wp_mono (hreg γ₀ H₀ Φ₀ w₀ a w hl hR) (fun e a' w' ⟨σ2,hR2,he,hσ⟩=>?_)
   subst he hσ
   have hw:Weak E k σ2 ⟨sl L,σ2.n,σ2.h⟩:=Weak.forget (keeps_sl h1)
   have hR3:=hw γ₀ H₀ Φ₀ w₀ a' w' hl hR2
   rw[hn,h2]at hR3
   exact⟨_,hR3,hQ⟩
open Classical in
theorem AW.loopI{α:Type}(S:α→St)(p:α→Prop)(μ:α→Nat){c:Code}(a₀:α)(h0:p a₀)(hr:∀a,p a→AW E k c (thenQ (fun σ'=>∃a',p a'∧Weak E k σ' (S a')∧μ a'<μ a) Q) (S a)):AW E k (.loop c) Q (S a₀):=by
 let q:St→Nat→Prop:=fun σ n=>∃a,p a∧S a=σ∧μ a=n
 let m:St→Nat:=fun σ=>if h:∃n,q σ n then Classical.choose (least (q σ) h)else 0
 have hm:∀σ,(∃n,q σ n)→q σ (m σ)∧∀n,q σ n→m σ≤n:=by
  intro σ h
  have:=Classical.choose_spec (least (q σ) h)
  simp only[m,dif_pos h]
  exact this
 refine AW.loop (fun σ=>∃n,q σ n) m ⟨_,a₀,h0,rfl,rfl⟩ (fun σ hI=>?_)
 obtain⟨⟨a,ha,hs,hμ⟩,hmin⟩:=hm σ hI
 subst hs
 refine(hr a ha).mono (fun e σ' hQ=>?_)
 cases e with
 | normal=>
   obtain⟨a',ha',hw,hlt⟩:=hQ
   have hex:∃n,q (S a') n:=⟨μ a',a',ha',rfl,rfl⟩
   exact⟨S a',hw,hex,by have:=(hm (S a') hex).2 (μ a') ⟨a',ha',rfl,rfl⟩;omega⟩
 | _=>exact hQ
theorem pvb_eq(a b:Bool):(AV.pv (PV.bool a)=AV.pv (PV.bool b))=(a=true↔b=true):=by
 rw[AV.pv.injEq,PV.bool.injEq,Bool.eq_iff_iff]
theorem pvi_eq(k:Go.IntKind)(a b:Int):(AV.pv (PV.int k a)=AV.pv (PV.int k b))=(a=b):=by
 rw[AV.pv.injEq,PV.int.injEq]
 simp
theorem int_beq(a b:Int):(a==b)=decide (a=b):=rfl
theorem int_bne(a b:Int):(a != b)=!decide (a=b):=rfl
theorem str_beq(a b:List UInt8):(a==b)=decide (a=b):=by
 rw[Bool.eq_iff_iff]
 simp
theorem str_bne(a b:List UInt8):(a != b)=!decide (a=b):=by
 rw[bne,str_beq]
theorem wrap_i64_id{n:Int}(h1:-9223372036854775808≤n)(h2:n≤9223372036854775807):Go.IntKind.i64.wrap n=n:=by
 rw[IntKind.wrap_i64]
 omega
theorem arun_nil{ops:Array Oper}:arun E O ops [] σ=some σ:=rfl
theorem arun_cons{ops:Array Oper}{o:Oper}{l:List Oper}:arun E O ops (o::l) σ=(astep E O ops σ o).bind (arun E O ops l):=rfl
theorem bind_some{α β:Type}(x:α)(f:α→Option β):(some x).bind f=f x:=rfl
end
end Go.Abs
namespace Go.Abs
open Go.RowKit Go.ChangeShapes Go.WideShapes Go.Deep
def Typed(P:Program):Nat→TypeId→PV→Prop
 | 0,_,_=>False
 | n+1,t,p=>match P.underlying t with
   | some .bool=>∃b,p=.bool b
   | some (.int k)=>∃m,p=.int k m∧(Lit.int k m).wf=true
   | some .string=>∃s,p=.str s∧s.length≤maxLen
   | some (.slice e)=>∃xs,p=.slice xs∧xs.length≤maxLen∧∀x∈xs,Typed P n e x∧x.cells.length=P.cellsOf e
   | some (.struct fs)=>∃qs:List PV,p=.agg (qs.flatMap PV.cells)∧qs.length=fs.size∧∀ (i:Nat) f q,fs[i]?=some f→qs[i]?=some q→Typed P n f.type q
   | _=>False
def contig(P:Program):List Field→Nat→Option Nat
 | [],o=>some o
 | f::fs,o=>if f.offset=o then contig P fs (o+P.cellsOf f.type)else none
def supp(P:Program):Nat→TypeId→Bool
 | 0,_=>false
 | n+1,t=>match P.underlying t with
   | some .bool=>P.cellsOf t==1
   | some (.int _)=>P.cellsOf t==1
   | some .string=>P.cellsOf t==1
   | some (.slice e)=>P.cellsOf t==1&&(supp P n e&&P.cellsOf e != 0)
   | some (.struct fs)=>contig P fs.toList 0==some (P.cellsOf t)&&fs.toList.all fun f=>supp P n f.type
   | _=>false
section
variable {H:Type}{enc:TypeId×Value→H}{P:Program}{w:World}
def Low(w:World)(b _:Nat):Prop:=b<w.heap.size
theorem cell_lt{a:Addr}{v:Value}(h:w.cell? a=some v):a.block<w.heap.size∧a.spot=none:=by
 unfold World.cell? at h
 split at h
 ·rename_i hb
  refine⟨(Array.getElem?_eq_some_iff.1 hb).1,?_⟩
  split at h
  ·cases h
  rename_i hs
  simpa using hs
 cases h
theorem cellsRel_one{Φ:Nat→Nat→Prop}{v:Value}{p:PV}(h1:p.one=true)(h:Rep Φ w v p):CellsRel Φ w [v] p.cells:=by
 have hc:p.cells=[p]:=by cases p<;>first|rfl|simp[PV.one]at h1
 rw[hc]
 refine⟨rfl,fun c hc=>by simp at hc;subst hc;exact h1,fun k v' c hv hcc=>?_⟩
 cases k with
 | zero=>simp only[List.getElem?_cons_zero,Option.some.injEq]at hv hcc;subst hv hcc;exact h
 | succ k=>simp at hv
theorem fields_rep{base:Nat}{held:Bool}(cs:List Value)(fuel:Nat)(R:TypeId→PV→Prop):
 ∀ (fs:List Field) (o e:Nat) (ys:List (DataW H×List MemPlace)),contig P fs o=some e→
  (∀f∈fs,∀ (cs:List Value) (x:DataW H×List MemPlace),DataW.trod enc P w base (fun _=>true) held fuel f.type cs=some x→∃p,CellsRel (Low w) w cs p.cells∧R f.type p∧cs.length=P.cellsOf f.type)→e=cs.length→ys.length=fs.length→
  (∀ (i:Nat) (f:Field),fs[i]?=some f→DataW.trod enc P w base (fun _=>true) held fuel f.type ((cs.drop f.offset).take (P.cellsOf f.type))=ys[i]?)→
  ∃qs:List PV,qs.length=fs.length∧(∀ (i:Nat) f q,fs[i]?=some f→qs[i]?=some q→R f.type q)∧CellsRel (Low w) w (cs.drop o) (qs.flatMap PV.cells)
 | [],o,e,ys,hc,_,he,_,_=>by
   simp only[contig,Option.some.injEq]at hc
   refine⟨[],rfl,fun i f q hf=>by simp at hf,?_⟩
   rw[List.drop_eq_nil_of_le (by omega)]
   exact⟨rfl,fun c hc=>by simp at hc,fun k v c hv=>by simp at hv⟩
 | f::fs,o,e,ys,hc,hs,he,hl,ht=>by
   simp only[contig]at hc
   split at hc
   ·rename_i ho
    cases ys with
    | nil=>simp at hl
    | cons y ys=>
      have h0:=ht 0 f rfl
      simp only[List.getElem?_cons_zero]at h0
      obtain⟨q,hq,hqt,hql⟩:=hs f List.mem_cons_self _ y h0
      obtain⟨qs,h1,h2,h3⟩:=fields_rep cs fuel R fs (o+P.cellsOf f.type) e ys hc (fun g hg=>hs g (List.mem_cons_of_mem _ hg)) he (by simpa using hl) (fun i g hg=>by
       have:=ht (i+1) g (by simpa using hg)
       simpa using this)
      refine⟨q::qs,by simp[h1],fun i g r hg hr=>?_,?_⟩
      ·cases i with
       | zero=>simp only[List.getElem?_cons_zero,Option.some.injEq]at hg hr;subst hg hr;exact hqt
       | succ i=>rw[List.getElem?_cons_succ]at hg hr;exact h2 i g r hg hr
      have hsplit:cs.drop o=(cs.drop f.offset).take (P.cellsOf f.type)++cs.drop (o+P.cellsOf f.type):=by
       rw[←ho,←List.drop_drop,List.take_append_drop]
      rw[hsplit,List.flatMap_cons]
      exact cellsRel_append hq h3
   cases hc
theorem slice_rep{base:Nat}{e:TypeId}{a:Addr}{len cap:Nat}(Q:PV→Prop)(hne:¬ P.cellsOf e=0)(hlen:len≤cap)(hcap:cap≤maxLen)
 (hel:∀i,i<len→∃cs',w.cells? base (a.add (i * P.cellsOf e)) (P.cellsOf e)=some cs'∧∃p:PV,CellsRel (Low w) w cs' p.cells∧Q p∧cs'.length=P.cellsOf e):
 ∃xs:List PV,CellsRel (Low w) w [.slice (some a) len cap] (PV.slice xs).cells∧xs.length≤maxLen∧∀y∈xs,Q y∧y.cells.length=P.cellsOf e:=by
 have hp:∀i,∃p:PV,i<len→∃cs',w.cells? base (a.add (i * P.cellsOf e)) (P.cellsOf e)=some cs'∧CellsRel (Low w) w cs' p.cells∧Q p∧cs'.length=P.cellsOf e:=by
  intro i
  by_cases hi:i<len
  ·obtain⟨cs',hc',ht'⟩:=hel i hi
   obtain⟨p,h1,h2,h3⟩:=ht'
   exact⟨p,fun _=>⟨cs',hc',h1,h2,h3⟩⟩
  exact⟨.nil,fun h=>absurd h hi⟩
 have ⟨f,hf⟩:=Classical.axiomOfChoice hp
 have hlen':((List.range len).map f).length=len:=by simp
 have hmem:∀y∈(List.range len).map f,Q y∧y.cells.length=P.cellsOf e:=by
  intro y hy
  obtain⟨i,hi,rfl⟩:=List.mem_map.1 hy
  obtain⟨cs',_,h1,h2,h3⟩:=hf i (List.mem_range.1 hi)
  exact⟨h2,by rw[←h1.1,h3]⟩
 refine⟨(List.range len).map f,?_,by rw[hlen'];omega,hmem⟩
 by_cases h0:len=0
 ·subst h0
  exact cellsRel_one rfl (.sliceAny a cap hcap)
 have hcell:∀i,i<len→∀j,j<P.cellsOf e→∃v c,w.cell? ⟨a.block,a.off+(i * P.cellsOf e+j),none⟩=some v∧(f i).cells[j]?=some c∧c.one=true∧Rep (Low w) w v c∧a.block<w.heap.size∧a.spot=none:=by
  intro i hi j hj
  obtain⟨cs',hc',h1,h2,h3⟩:=hf i hi
  obtain⟨_,hcl,hat⟩:=World.cells?_some hc'
  have hv:cs'[j]?=some (cs'[j]'(by omega)):=List.getElem?_eq_getElem (by omega)
  have hjl:j<(f i).cells.length:=by rw[←h1.1];omega
  have hcv:=hat j hj
  rw[hv]at hcv
  have hsp:a.spot=none:=by
   have hz:0<len:=by omega
   obtain⟨cs0,hc0,_⟩:=hf 0 hz
   obtain⟨_,hcl0,hat0⟩:=World.cells?_some hc0
   have:=hat0 0 (by omega)
   rw[List.getElem?_eq_getElem (by omega)]at this
   have h':=(cell_lt this).2
   simpa[Addr.add]using h'
  have hab:(a.add (i * P.cellsOf e)).add j=⟨a.block,a.off+(i * P.cellsOf e+j),none⟩:=by
   rw[Go.Deep.add_add]
   unfold Addr.add
   split
   ·rename_i h
    rw[h,←hsp]
    rfl
   rfl
  rw[hab]at hcv
  refine⟨_,_,hcv,List.getElem?_eq_getElem hjl,h1.2.1 _ (List.getElem_mem hjl),h1.2.2 j _ _ hv (List.getElem?_eq_getElem hjl),?_,hsp⟩
  exact(cell_lt hcv).1
 have hpos:0<P.cellsOf e:=by omega
 obtain⟨_,_,_,_,_,_,hblk,hsp⟩:=hcell 0 (by omega) 0 hpos
 have ha:a=⟨a.block,a.off,none⟩:=by rw[←hsp]
 rw[ha]
 have hsz:∀y∈(List.range len).map f,y.cells.length=P.cellsOf e:=fun y hy=>(hmem y hy).2
 have hfl:=flat_length hsz
 rw[hlen']at hfl
 have hat:∀k,k<(flat ((List.range len).map f)).length→∃v c,w.cell? ⟨a.block,a.off+k,none⟩=some v∧(flat ((List.range len).map f))[k]?=some c∧c.one=true∧Rep (Low w) w v c:=by
  intro k hk
  rw[hfl]at hk
  have hdiv:k / P.cellsOf e<len:=Nat.div_lt_of_lt_mul (by rw[Nat.mul_comm];exact hk)
  have hmod:=Nat.mod_lt k hpos
  obtain⟨v,c,h1,h2,h3,h4,_,_⟩:=hcell _ hdiv _ hmod
  have he:k / P.cellsOf e * P.cellsOf e+k % P.cellsOf e=k:=by rw[Nat.mul_comm];exact Nat.div_add_mod _ _
  rw[he]at h1
  refine⟨v,c,h1,?_,h3,h4⟩
  have:=flat_at hsz (k / P.cellsOf e) (k % P.cellsOf e) (f (k / P.cellsOf e)) (by rw[List.getElem?_map,List.getElem?_range hdiv];rfl) hmod
  rw[he]at this
  rw[this]
  exact h2
 refine cellsRel_one rfl (.slice a.block a.off len cap (P.cellsOf e) _ (fun k=>(w.cell? ⟨a.block,a.off+k,none⟩).getD undef) hlen' hlen hcap hsz (fun c hc=>?_) (fun k hk=>?_) (fun k c hc=>?_))
 ·obtain⟨k,hk,rfl⟩:=List.getElem_of_mem hc
  obtain⟨v,c',_,h2,h3,_⟩:=hat k hk
  rw[List.getElem?_eq_getElem hk]at h2
  injection h2 with h2
  rw[h2]
  exact h3
 ·obtain⟨v,c',h1,_⟩:=hat k hk
  exact⟨hblk,by rw[h1];rfl⟩
 have hk:=(List.getElem?_eq_some_iff.1 hc).1
 obtain⟨v,c',h1,h2,_,h4⟩:=hat k hk
 rw[hc]at h2
 injection h2 with h2
 subst h2
 rw[h1]
 exact h4
theorem trod_rep{base:Nat}{held:Bool}:∀ (n:Nat) (t:TypeId) (fuel:Nat) (cs:List Value) (x:DataW H×List MemPlace),supp P n t=true→DataW.trod enc P w base (fun _=>true) held fuel t cs=some x→
 ∃p,CellsRel (Low w) w cs p.cells∧Typed P n t p∧cs.length=P.cellsOf t:=by
 intro n
 induction n with
 | zero=>intro t fuel cs x hs;simp[supp]at hs
 | succ n ih=>
   intro t fuel cs x hs ht
   simp only[supp]at hs
   simp only[Typed]
   split at hs
   ·rename_i hu
    obtain⟨b,rfl,_⟩:=DataW.trod_bool hu ht
    exact⟨.bool b,cellsRel_one rfl (.bool b),⟨b,rfl⟩,by simp at hs;simp[hs]⟩
   ·rename_i k hu
    obtain⟨m,rfl,_,hw⟩:=DataW.trod_int hu ht
    exact⟨.int k m,cellsRel_one rfl (.int k m),⟨m,rfl,hw⟩,by simp at hs;simp[hs]⟩
   ·rename_i hu
    obtain⟨s,rfl,_,hl⟩:=DataW.trod_string hu ht
    refine⟨.str s.data.toList,cellsRel_one rfl (.str s.data.toList),⟨s.data.toList,rfl,?_⟩,by simp at hs;simp[hs]⟩
    simpa using hl
   ·rename_i e hu
    simp only[Bool.and_eq_true,beq_iff_eq,bne_iff_ne,ne_eq]at hs
    obtain⟨hc1,hse,hne⟩:=hs
    rcases open_slice hu ht with⟨rfl,_⟩|⟨a,len,cap,m,k,D,Pl,rfl,hb,hlen,hcap,hm,_,hel⟩
    ·exact⟨.slice [],cellsRel_one rfl .sliceNil,⟨[],rfl,Nat.zero_le _,fun x hx=>by cases hx⟩,by simp[hc1]⟩
    simp only[if_true]at hm
    obtain⟨xs,h1,h2,h3⟩:=slice_rep (base:=base) (Typed P n e) hne hlen hcap (fun i hi=>by
     obtain⟨cs',hc',ht'⟩:=hel i (by omega)
     exact⟨cs',hc',ih e k cs' _ hse ht'⟩)
    exact⟨.slice xs,h1,⟨xs,rfl,h2,h3⟩,by simp[hc1]⟩
   ·rename_i fs hu
    simp only[Bool.and_eq_true,beq_iff_eq]at hs
    obtain⟨ys,k,_,_,hcl,hyl,hfs⟩:=DataW.trod_struct hu ht
    obtain⟨qs,h1,h2,h3⟩:=fields_rep cs k (Typed P n) fs.toList 0 _ ys hs.1 (fun f hf cs x h=>ih f.type k cs x (List.all_eq_true.1 hs.2 f hf) h) hcl.symm (by simpa using hyl) (fun i f hf=>hfs i f (by simpa using hf))
    refine⟨.agg (qs.flatMap PV.cells),?_,⟨qs,rfl,by simpa using h1,fun i f q hf hq=>h2 i f q (by simpa using hf) hq⟩,hcl⟩
    simpa[PV.cells]using h3
   cases hs
theorem param_cells{n:Nat}{t:TypeId}{v:Value}{r:Reach}{b:Nat}{p:PV}(hs:(match P.underlying t with|some .bool|some (.int _)|some .string|some (.slice _)|some (.struct _)=>true|_=>false)=true)(hv:Value.okWide P w r b t v)(h1:CellsRel (Low w) w v.cells.toList p.cells)(h2:Typed P n t p):
 ∃p,Rep (Low w) w v p∧Typed P n t p:=by
 cases n with
 | zero=>cases h2
 | succ n=>
   have one:∀p:PV,p.one=true→v.cells=#[v]→CellsRel (Low w) w v.cells.toList p.cells→Rep (Low w) w v p:=by
    intro p hp hc hr
    have hpc:p.cells=[p]:=by cases p<;>first|rfl|simp[PV.one]at hp
    rw[hc,hpc]at hr
    exact hr.2.2 0 v p rfl rfl
   simp only[Typed]at h2
   split at hs
   ·rename_i hu
    rw[hu]at h2
    obtain⟨b,rfl⟩:=okWide_bool hu hv
    obtain⟨b',rfl⟩:=h2
    exact⟨_,one _ rfl rfl h1,by simp only[Typed,hu];exact⟨_,rfl⟩⟩
   ·rename_i k hu
    rw[hu]at h2
    obtain⟨b,rfl⟩:=okWide_int hu hv
    obtain⟨b',rfl,hw⟩:=h2
    exact⟨_,one _ rfl rfl h1,by simp only[Typed,hu];exact⟨_,rfl,hw⟩⟩
   ·rename_i hu
    rw[hu]at h2
    obtain⟨b,rfl⟩:=okWide_string hu hv
    obtain⟨b',rfl,hw⟩:=h2
    exact⟨_,one _ rfl rfl h1,by simp only[Typed,hu];exact⟨_,rfl,hw⟩⟩
   ·rename_i e hu
    rw[hu]at h2
    obtain⟨a,len,cap,rfl⟩:=okWide_slice hu hv
    obtain⟨xs,rfl,hw⟩:=h2
    exact⟨_,one _ rfl rfl h1,by simp only[Typed,hu];exact⟨_,rfl,hw⟩⟩
   ·rename_i fs hu
    rw[hu]at h2
    obtain⟨cs,rfl,_⟩:=okWide_struct hu hv
    obtain⟨qs,rfl,hq⟩:=h2
    obtain⟨l⟩:=cs
    exact⟨_,.agg l _ h1.1 h1.2.1 h1.2.2,by simp only[Typed,hu];exact⟨_,rfl,hq⟩⟩
   cases hs
theorem param_rep{n:Nat}{t:TypeId}{v:Value}{d:DataW H}{ps:List MemPlace}{r:Reach}{b:Nat}(hs:supp P n t=true)(hv:Value.okWide P w r b t v)(h:DataW.Trod enc P w 0 (fun _=>true) true t v d ps):
 ∃p,Rep (Low w) w v p∧Typed P n t p:=by
 obtain⟨fuel,hf⟩:=h
 obtain⟨p,h1,h2,h3⟩:=trod_rep n t fuel _ _ hs hf
 refine param_cells ?_ hv h1 h2
 cases n with
 | zero=>simp[supp]at hs
 | succ n=>
   simp only[supp]at hs
   split at hs<;>first|(simp only;done)|(exact absurd hs (by decide))
end
end Go.Abs
namespace Go.Abs
open Go.RowKit Go.ChangeShapes Go.WideShapes
section
variable {H:Type}{enc:TypeId×Value→H}
theorem Good.calls{E:Env}{f:FuncId}{ps:List PV}(hg:Good E f (ps.map AV.pv) [] [.pv (.bool true)] []){W:World}{vs:List Value}(hgi:E.GI W)(hgn:E.gN≤W.heap.size)(hl:vs.length=ps.length)(hr:∀ (i:Nat) v p,vs[i]?=some v→ps[i]?=some p→Rep (Low W) W v p):
 Calls E.P f ⟨vs⟩ W fun e W'=>e=.returned (.bool true)∧Below W.heap.size W W':=by
 have hI:OInv E [] [] (Low W) W:=⟨rfl,fun l o g h=>by simp at h,fun i j gi gj h=>by simp at h,fun i g h=>by simp at h,fun b k h=>h,hgi,hgn⟩
 refine(hg W (Low W) [] vs hI (by simpa using hl) (fun i v a hv ha=>?_)).mono fun e W' ⟨us,γ',Φ',he,hok,hul,hur⟩=>?_
 ·rw[List.getElem?_map]at ha
  obtain⟨p,hp,rfl⟩:=Option.map_eq_some_iff.1 ha
  exact .pv (hr i v p hv hp)
 match us,hul with
 | [u],_=>
   have hu:=hur 0 u _ rfl rfl
   have hv:=rep_bool (arel_pv hu)
   subst hv
   refine⟨he,⟨hok.since.os,hok.since.tape,hok.since.output,hok.since.size,fun k hk=>?_⟩⟩
   exact hok.since.foreign k hk (fun i g h=>by simp at h)
theorem trodAll_reps{P:Program}{w:World}{r:Reach}{b:Nat}(TY:TypeId→PV→Prop):∀ {ts:List TypeId} {vs:List Value} {ds:List (DataW H)} {ps:List MemPlace},
 (∀t∈ts,∀ (v:Value) (d:DataW H) (ps:List MemPlace),Value.okWide P w r b t v→DataW.Trod enc P w 0 (fun _=>true) true t v d ps→∃p,Rep (Low w) w v p∧TY t p)→(∀ (i:Nat) t v,ts[i]?=some t→vs[i]?=some v→Value.okWide P w r b t v)→
 DataW.TrodAll enc P w 0 (fun _=>true) true ts vs ds ps→∃qs:List PV,vs.length=qs.length∧qs.length=ts.length∧ds.length=ts.length∧(∀ (i:Nat) v p,vs[i]?=some v→qs[i]?=some p→Rep (Low w) w v p)∧∀ (i:Nat) t p,ts[i]?=some t→qs[i]?=some p→TY t p
 | [],[],[],_,_,_,_=>⟨[],rfl,rfl,rfl,fun i v p h=>by simp at h,fun i t p h=>by simp at h⟩
 | t::ts,v::vs,d::ds,ps,hs,hv,h=>by
   obtain⟨p,q,h1,h2,_⟩:=h
   obtain⟨x,hx1,hx2⟩:=hs t (by simp) v d p (hv 0 t v rfl rfl) h1
   obtain⟨qs,e1,e2,e3,e4,e5⟩:=trodAll_reps TY (fun t ht=>hs t (by simp[ht])) (fun i t v ht hv'=>hv (i+1) t v (by simpa using ht) (by simpa using hv')) h2
   refine⟨x::qs,by simp[e1],by simp[e2],by simp[e3],fun i v p hv hp=>?_,fun i t p ht hp=>?_⟩
   ·cases i with
    | zero=>simp only[List.getElem?_cons_zero,Option.some.injEq]at hv hp;subst hv hp;exact hx1
    | succ i=>rw[List.getElem?_cons_succ]at hv hp;exact e4 i v p hv hp
   cases i with
   | zero=>simp only[List.getElem?_cons_zero,Option.some.injEq]at ht hp;subst ht hp;exact hx2
   | succ i=>rw[List.getElem?_cons_succ]at ht hp;exact e5 i t p ht hp
 | [],[],_::_,_,_,_,h=>h.elim
 | [],_::_,_,_,_,_,h=>h.elim
 | _::_,[],_,_,_,_,h=>h.elim
 | _::_,_::_,[],_,_,_,h=>h.elim
theorem trodAll_stays{P:Program}(hl:laidOutB P=true){W W':World}{sp:Nat→Bool}:∀ {ts:List TypeId} {vs:List Value} {ds:List (DataW H)} {ps:List MemPlace},(∀t∈ts,P.readableRec t=true∧t<P.types.size)→
 DataW.TrodAll enc P W 0 (fun _=>true) true ts vs ds ps→(∀p∈ps,W.sameAt W' p)→(∀p∈ps,sp p.block=true)→DataW.TrodAll enc P W' 0 sp true ts vs ds ps
 | [],[],[],_,_,h,_,_=>h
 | t::ts,v::vs,d::ds,ps,hs,h,h1,h2=>by
   obtain⟨p,q,ha,hb,rfl⟩:=h
   exact⟨p,q,WideElems.Trod_stays hl (hs t (by simp)).1 (hs t (by simp)).2 ha (fun x hx=>h1 x (by simp[hx])) (fun x hx=>h2 x (by simp[hx])),
    trodAll_stays hl (fun t ht=>hs t (by simp[ht])) hb (fun x hx=>h1 x (by simp[hx])) (fun x hx=>h2 x (by simp[hx])),rfl⟩
 | [],[],_::_,_,_,h,_,_=>h.elim
 | [],_::_,_,_,_,h,_,_=>h.elim
 | _::_,[],_,_,_,h,_,_=>h.elim
 | _::_,_::_,[],_,_,h,_,_=>h.elim
theorem post_below{P:Program}{f:Func}{s:ChangeSpec}{apart fresh handsOn again:Bool}{W W':World}{args:Array Value}{v:Value}{ds gs:List (DataW H)}{before pa pv:List MemPlace}
 (hW:DataW.Whole enc P f.params.toList s.vars apart W args.toList ds gs before)
 (hres:∀ (b:Nat) (sp:Nat→Bool) (hd:Bool),DataW.TrodAll enc P W' b sp hd f.resultTypes.toList (v.resultList f.resultTypes.size) (s.fn H (ds++gs)).results [])
 (hargs:∀sp:Nat→Bool,(∀p∈before,sp p.block=true)→DataW.TrodAll enc P W' 0 sp true f.params.toList args.toList (s.fn H (ds++gs)).args pa)
 (hvars:∀sp:Nat→Bool,(∀p∈before,sp p.block=true)→DataW.TrodVars enc P W' sp s.vars (s.fn H (ds++gs)).vars pv)
 (hps:before=pa++pv) (hb:Below W.heap.size W W')
 (hok:∀ (j:Nat) (t:TypeId) (r:Value),f.resultTypes[j]?=some t→(v.resultList f.resultTypes.size)[j]?=some r→Value.okWide P W' .any 0 t r):
 s.post enc P f apart fresh handsOn again W args v W':=by
 have hlt:∀p∈before,p.block<W.heap.size:=fun p hp=>hW.lt p hp
 have hold:∀p∈before,(fun b=>decide (b<W.heap.size)) p.block=true:=fun p hp=>by simpa using hlt p hp
 refine⟨ds,gs,before,[],pa,pv,hW,hres _ _ _,hargs _ hold,hvars _ hold,World.keptBut_mono (fun p hp=>⟨hp,?_⟩) (hb.frame (·∈before)),fun _=>?_⟩
 ·rw[hps,List.mem_append]at hp
  exact Or.inr hp
 obtain⟨_,_,_,_,_,hz,hn⟩:=hW
 refine⟨hok,_,_,([]++pa)++pv,⟨[]++pa,pv,trodAll_append (hargs _ (fun _ _=>rfl)) (hres _ _ _),hvars _ (fun _ _=>rfl),rfl,?_,?_⟩,?_⟩
 ·intro b off hp
  have hin:MemPlace.cell b off∈before:=by rw[hps];simpa using hp
  rw[hb.frozen (hlt _ hin)]
  exact hz b off hin
 ·intro ha
  have:=hn ha
  rw[hps]at this
  simpa using this
 intro p hp _
 rw[hps]
 simpa using hp
theorem liftedT{E:Env}{C:Checked}(hE:E.P=C.prog){os:Os}{f:FuncId}{fn:Func}{s:ChangeSpec}{conds:List PathCond}{apart fresh handsOn again:Bool}{X:World→Array Value→Prop}(TY:TypeId→PV→Prop){tb:TypeId}
 (own:ownKnob C.prog.godebug=none) (started:os.Started) (noInit:C.prog.inits.idxOf? f=none) (hfn:C.prog.funcs[f]?=some fn) (hlo:laidOutB C.prog=true)
 (hvars:s.vars=[]) (hspec:∀ds:List (DataW H),ds.length=fn.params.size→s.fn H ds={ results:=[.lit (.bool true)],args:=ds })
 (hres:fn.resultTypes=#[tb]) (hub:C.prog.underlying tb=some .bool)
 (hT:∀t∈fn.params.toList,∀ (w:World) (r:Reach) (b:Nat) (v:Value) (d:DataW H) (ps:List MemPlace),Value.okWide C.prog w r b t v→DataW.Trod enc C.prog w 0 (fun _=>true) true t v d ps→∃p,Rep (Low w) w v p∧TY t p)
 (hpar:fn.params.toList.all (fun t=>C.prog.readableRec t&&decide (t<C.prog.types.size))=true)
 (hG:∀W:World,W.ShapedOpen C.prog→(∃a,X W.memory a)→E.GI W∧E.gN≤W.heap.size)
 (hgood:∀ps:List PV,ps.length=fn.params.size→(∀ (i:Nat) t p,fn.params[i]?=some t→ps[i]?=some p→TY t p)→Good E f (ps.map AV.pv) [] [.pv (.bool true)] [])
 (witness:∃ (w:World) (tape:Tape) (i:Input),w.os=os∧(w.forCall tape i).Shaped C.prog∧i.vars=[]∧Input.okWide C.prog (w.forCall tape i) .any w.heap.size f i∧
   ((s.pre enc C.prog fn conds apart (w.forCall tape i).memory i.args∧X (w.forCall tape i).memory i.args)∧sizedMet enc C.prog fn (OpenSpec.ofChange s) apart (w.forCall tape i).memory i.args)∧({}:Assume).holds C.prog (lone (Frame.enter C.prog f i.args .normal) [] (w.forCall tape i))):
 ReturnsInHanded {} C os f .any (fun w args=>(s.pre enc C.prog fn conds apart w args∧X w args)∧sizedMet enc C.prog fn (OpenSpec.ofChange s) apart w args) (s.post enc C.prog fn apart fresh handsOn again):=by
 refine returnsInHanded_of_calls own started noInit witness ?_
 intro w tape i _ hsh _ hok hpre _
 obtain⟨_,_,_,fn',hfn',_,_,_,hsz,hval⟩:=hok
 have e:fn'=fn:=Option.some.inj (hfn'.symm.trans hfn)
 subst e
 obtain⟨⟨⟨ds,gs,before,hw,_⟩,hX⟩,_⟩:=hpre
 have hw':=DataW.Whole.of_heap (w':=w.forCall tape i) (by rfl) hw
 have hread:∀t∈fn'.params.toList,C.prog.readableRec t=true∧t<C.prog.types.size:=fun t ht=>by
  have:=List.all_eq_true.1 hpar t ht
  rw[Bool.and_eq_true,decide_eq_true_eq]at this
  exact this
 have hw2:=hw'
 obtain⟨p,q,hA,hV,rfl,_,_⟩:=hw'
 obtain⟨qs,e1,e2,e3,e4,e5⟩:=trodAll_reps TY (fun t ht v d ps=>hT t ht _ _ _ v d ps) (fun i t v ht hv=>hval i t v (by simpa using ht) (by simpa using hv)) hA
 rw[hvars]at hV
 obtain⟨hgs,hq⟩:gs=[]∧q=[]:=by
  cases gs with
  | nil=>exact⟨rfl,hV⟩
  | cons g gs=>exact hV.elim
 subst hgs hq
 obtain⟨hgi,hgn⟩:=hG _ hsh ⟨_,hX⟩
 have hcall:=Good.calls (hgood qs (by simpa using e2) (fun i t p ht hp=>e5 i t p (by simpa using ht) hp)) (W:=w.forCall tape i) (vs:=i.args.toList) hgi hgn e1 e4
 rw[hE]at hcall
 refine Calls.mono hcall fun e W' ⟨he,hb⟩=>?_
 subst he
 have hlen:ds.length=fn'.params.size:=by simpa using e3
 have hsp:s.fn H (ds++[])={ results:=[.lit (.bool true)],args:=ds }:=by
  rw[List.append_nil]
  exact hspec ds hlen
 refine ChangeSpec.post_blind (post_below (pa:=p) (pv:=[]) hw2 (fun b sp hd=>?_) (fun sp hspb=>?_) (fun sp _=>?_) rfl hb (ok_one hres rfl (okWide_bool_mk hub _)))
 ·rw[hsp,hres]
  exact trodAll_mk1 (shut_bool hub _)
 ·rw[hsp]
  refine trodAll_stays hlo hread hA (fun x hx=>hb.same ?_) (fun x hx=>hspb x (by simp[hx]))
  exact hw2.lt x (by simp[hx])
 rw[hsp,hvars]
 exact rfl
theorem lifted{E:Env}{C:Checked}(hE:E.P=C.prog){os:Os}{f:FuncId}{fn:Func}{s:ChangeSpec}{conds:List PathCond}{apart fresh handsOn again:Bool}{X:World→Array Value→Prop}(N:Nat){tb:TypeId}
 (own:ownKnob C.prog.godebug=none) (started:os.Started) (noInit:C.prog.inits.idxOf? f=none) (hfn:C.prog.funcs[f]?=some fn) (hlo:laidOutB C.prog=true)
 (hvars:s.vars=[]) (hspec:∀ds:List (DataW H),ds.length=fn.params.size→s.fn H ds={ results:=[.lit (.bool true)],args:=ds })
 (hres:fn.resultTypes=#[tb]) (hub:C.prog.underlying tb=some .bool)
 (hpar:fn.params.toList.all (fun t=>supp C.prog N t&&(C.prog.readableRec t&&decide (t<C.prog.types.size)))=true)
 (hG:∀W:World,W.ShapedOpen C.prog→(∃a,X W.memory a)→E.GI W∧E.gN≤W.heap.size)
 (hgood:∀ps:List PV,ps.length=fn.params.size→(∀ (i:Nat) t p,fn.params[i]?=some t→ps[i]?=some p→Typed C.prog N t p)→Good E f (ps.map AV.pv) [] [.pv (.bool true)] [])
 (witness:∃ (w:World) (tape:Tape) (i:Input),w.os=os∧(w.forCall tape i).Shaped C.prog∧i.vars=[]∧Input.okWide C.prog (w.forCall tape i) .any w.heap.size f i∧
   ((s.pre enc C.prog fn conds apart (w.forCall tape i).memory i.args∧X (w.forCall tape i).memory i.args)∧sizedMet enc C.prog fn (OpenSpec.ofChange s) apart (w.forCall tape i).memory i.args)∧({}:Assume).holds C.prog (lone (Frame.enter C.prog f i.args .normal) [] (w.forCall tape i))):
 ReturnsInHanded {} C os f .any (fun w args=>(s.pre enc C.prog fn conds apart w args∧X w args)∧sizedMet enc C.prog fn (OpenSpec.ofChange s) apart w args) (s.post enc C.prog fn apart fresh handsOn again):=
 liftedT hE (Typed C.prog N) own started noInit hfn hlo hvars hspec hres hub
  (fun t ht w r b v d ps hv h=>param_rep (by
    have:=List.all_eq_true.1 hpar t ht
    rw[Bool.and_eq_true]at this
    exact this.1) hv h)
  (List.all_eq_true.2 fun t ht=>by
    have:=List.all_eq_true.1 hpar t ht
    rw[Bool.and_eq_true]at this
    exact this.2) hG hgood witness
end
end Go.Abs
namespace Go.Abs
inductive Sub:PV→List PV→Prop
 | here (xs:List PV):Sub (.slice xs) xs
 | elem {xs:List PV} {x:PV} {ys:List PV} (hx:x∈flat xs) (h:Sub x ys):Sub (.slice xs) ys
 | cell {cs:List PV} {c:PV} {ys:List PV} (hc:c∈cs) (h:Sub c ys):Sub (.agg cs) ys
end Go.Abs
namespace Go.Abs
def mp(m:List (List UInt8×Int)):List (PV×PV):=m.map fun x=>(.str x.1,.int .i64 x.2)
theorem sl_scr{m:Nat}:∀ {L:List (Nat×AV)},(L.all fun p=>p.2.ltB m)=true→∀i,scr m (sl L i)=sl L i
 | [],_,i=>rfl
 | (j,v)::r,h,i=>by
   simp only[List.all_cons,Bool.and_eq_true]at h
   simp only[sl]
   split
   ·unfold scr
    rw[if_pos h.1]
   exact sl_scr h.2 i
theorem Weak.cut{E:Env}{k m n:Nat}{L:List (Nat×AV)}{H H':List AObj}(hk:k≤m)(hH:H.take m=H')(ho:H'.all (AObj.ltB m)=true)(hL:(L.all fun p=>p.2.ltB m)=true):Weak E k ⟨sl L,n,H⟩ ⟨sl L,n,H'⟩:=by
 have h:=Weak.scrub (E:=E) (σ:=⟨sl L,n,H⟩) hk (by rw[hH];exact ho)
 have e:Go.Abs.scrub m ⟨sl L,n,H⟩=⟨sl L,n,H'⟩:=by
  unfold Go.Abs.scrub
  simp only[hH]
  congr 1
  funext i
  exact sl_scr hL i
 rw[e]at h
 exact h
end Go.Abs
namespace Go.Abs
open Go.RowKit
theorem Good.lib{E:Env}{f:FuncId}{ps rs:List PV}
 (h:∀ (w:World) (Φ:Nat→Nat→Prop) (vs:List Value),E.GI w→(∀b k,Φ b k→b<w.heap.size)→vs.length=ps.length→(∀ (i:Nat) v p,vs[i]?=some v→ps[i]?=some p→Rep Φ w v p)→
   Calls E.P f ⟨vs⟩ w fun e w'=>∃ (us:List Value) (Φ':Nat→Nat→Prop),e=.returned (retV us)∧us.length=rs.length∧Below w.heap.size w w'∧(∀b k,Φ b k→Φ' b k)∧(∀b k,Φ' b k→b<w.heap.size→Φ b k)∧(∀b k,Φ' b k→b<w'.heap.size)∧
    ∀ (i:Nat) u r,us[i]?=some u→rs[i]?=some r→Rep Φ' w' u r):Good E f (ps.map AV.pv) [] (rs.map AV.pv) []:=by
 intro w Φ γ cargs hI hl hr
 refine(h w Φ cargs hI.gi hI.phi (by simpa using hl) (fun i v p hv hp=>?_)).mono fun e w' ⟨us,Φ',he,hul,hb,h1,h2,h3,h4⟩=>?_
 ·exact arel_pv (hr i v (.pv p) hv (by rw[List.getElem?_map,hp];rfl))
 refine⟨us,γ,Φ',he,hI.grow hb.block hb.size hb.os hb.tape hb.output h1 h2 h3,by simpa using hul,fun i v a hv ha=>?_⟩
 rw[List.getElem?_map]at ha
 obtain⟨p,hp,rfl⟩:=Option.map_eq_some_iff.1 ha
 exact .pv (h4 i v p hv hp)
theorem strs_cells{Φ:Nat→Nat→Prop}{w:World}{v:Value}{xs:List (List UInt8)}(h:Rep Φ w v (.slice (xs.map PV.str))):
 (v=.slice none 0 0∧xs=[])∨(∃A cap,v=.slice (some A) 0 cap∧xs=[]∧cap≤maxLen) ∨
 ∃b o cap,v=.slice (some ⟨b,o,none⟩) xs.length cap∧xs.length≤cap∧cap≤maxLen∧∀ (k:Nat) x,xs[k]?=some x→Φ b (o+k)∧w.cell? ⟨b,o+k,none⟩=some (.string ⟨⟨x⟩⟩):=by
 generalize hp:PV.slice (xs.map PV.str)=p at h
 cases h with
 | sliceNil=>
   injection hp with hp
   exact .inl ⟨rfl,by simpa using hp⟩
 | sliceAny A cap hm=>
   injection hp with hp
   exact .inr (.inl ⟨A,cap,rfl,by simpa using hp,hm⟩)
 | slice b o len cap sz ys vs hl hc hm hsz h1 hcell hrep=>
   injection hp with hp
   subst hp
   have hfl:flat (xs.map PV.str)=xs.map PV.str:=by
    induction xs with
    | nil=>rfl
    | cons x xs ih=>
      rw[List.map_cons,flat_cons]
      show PV.str x::flat (xs.map PV.str)=_
      have:∀ys:List (List UInt8),flat (ys.map PV.str)=ys.map PV.str:=by
       intro ys
       induction ys with
       | nil=>rfl
       | cons y ys ih=>rw[List.map_cons,flat_cons,ih];rfl
      rw[this]
   simp only[List.length_map]at hl
   subst hl
   refine .inr (.inr ⟨b,o,cap,rfl,hc,hm,fun k x hx=>?_⟩)
   rw[hfl]at hcell hrep
   have hk:k<xs.length:=(List.getElem?_eq_some_iff.1 hx).1
   obtain⟨hφ,hcl⟩:=hcell k (by simpa using hk)
   have hr:=hrep k (.str x) (by rw[List.getElem?_map,hx];rfl)
   generalize vs k=u at hr hcl
   cases hr with
   | str s=>exact⟨hφ,hcl⟩
 | bool b=>cases hp
 | int k n=>cases hp
 | str s=>cases hp
 | nil=>cases hp
 | ifc t v=>cases hp
 | nilp=>cases hp
 | snil=>cases hp
 | agg vs cs hl h1 hrep=>cases hp
end Go.Abs
