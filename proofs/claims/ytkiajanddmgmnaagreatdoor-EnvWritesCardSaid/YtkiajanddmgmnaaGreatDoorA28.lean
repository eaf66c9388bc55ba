import Derived.Test.YtkiajanddmgmnaaGreatDoorA23
import Derived.Below
/- The abstract machine, part 26: lengths; clauses. -/
namespace Go.Abs

/-- A slice within a value. -/
inductive Sub : PV → List PV → Prop
  | here (xs : List PV) : Sub (.slice xs) xs
  | elem {xs : List PV} {x : PV} {ys : List PV} (hx : x ∈ flat xs) (h : Sub x ys) : Sub (.slice xs) ys
  | cell {cs : List PV} {c : PV} {ys : List PV} (hc : c ∈ cs) (h : Sub c ys) : Sub (.agg cs) ys

theorem Rep.sub {Φ : Nat → Nat → Prop} {w : Go.World} {v : Go.Value} {p : PV} (h : Rep Φ w v p) : ∀ ys, Sub p ys → ys.length ≤ Go.maxLen := by
  induction h with
  | bool b => intro ys hs; cases hs
  | int k n => intro ys hs; cases hs
  | str s => intro ys hs; cases hs
  | nil => intro ys hs; cases hs
  | ifc t v => intro ys hs; cases hs
  | sliceNil =>
    intro ys hs
    cases hs with
    | here => exact Nat.zero_le _
    | elem hx h => simp [flat_nil] at hx
  | slice b o len cap sz xs vs hl hc hm hsz h1 hcell hrep ih =>
    intro ys hs
    cases hs with
    | here => omega
    | elem hx h =>
      obtain ⟨k, hk, rfl⟩ := List.getElem_of_mem hx
      exact ih k _ (List.getElem?_eq_getElem hk) ys h
  | sliceAny A cap hm =>
    intro ys hs
    cases hs with
    | here => exact Nat.zero_le _
    | elem hx h => simp [flat_nil] at hx
  | agg vs cs hl h1 hrep ih =>
    intro ys hs
    cases hs with
    | cell hc h =>
      obtain ⟨k, hk, rfl⟩ := List.getElem_of_mem hc
      have hk' : k < vs.length := by omega
      exact ih k vs[k] _ (List.getElem?_eq_getElem hk') (List.getElem?_eq_getElem hk) ys h

/-- The lengths of what an argument holds. -/
theorem Good.sub {E : Env} {f : Go.FuncId} {args : List AV} {H : List AObj} {rs : List AV} {H' : List AObj} (i : Nat) {p : PV} (hi : args[i]? = some (.pv p)) (h : (∀ ys, Sub p ys → ys.length ≤ Go.maxLen) → Good E f args H rs H') : Good E f args H rs H' := by
  intro w Φ γ cargs hI hl hr
  have hlt : i < cargs.length := by
    have := (List.getElem?_eq_some_iff.1 hi).1
    omega
  have hr0 := hr i cargs[i] _ (List.getElem?_eq_getElem hlt) hi
  exact h (fun ys hs => (arel_pv hr0).sub ys hs) w Φ γ cargs hI hl hr

theorem bnot_t {b : Bool} (h : (!b) = true) : b = false := by simpa using h
theorem bnot_f {b : Bool} (h : (!b) = false) : b = true := by simpa using h

/-- A clause for a function of plain values. -/
def pureC (g : List PV → Option (List PV)) (args : List AV) (H : List AObj) : Option (List AV × List AObj) :=
  match allPV args, H with
  | some ps, [] => (g ps).map fun rs => (rs.map AV.pv, [])
  | _, _ => none

theorem allPV_some : ∀ {as : List AV} {ps : List PV}, allPV as = some ps → as = ps.map AV.pv
  | [], ps, h => by simp only [allPV, Option.some.injEq] at h; subst h; rfl
  | a :: as, ps, h => by
    cases a with
    | pv p =>
      simp only [allPV] at h
      obtain ⟨s, hs, rfl⟩ := Option.map_eq_some_iff.1 h
      rw [allPV_some hs]
      rfl
    | _ => simp [allPV] at h

theorem allPV_map : ∀ ps : List PV, allPV (ps.map AV.pv) = some ps
  | [] => rfl
  | p :: ps => by simp [allPV, allPV_map ps]

theorem pureC_good {E : Env} {f : Go.FuncId} {g : List PV → Option (List PV)} (h : ∀ ps rs, g ps = some rs → Good E f (ps.map AV.pv) [] (rs.map AV.pv) []) (args : List AV) (H : List AObj) (rs : List AV) (H' : List AObj) (hc : pureC g args H = some (rs, H')) : Good E f args H rs H' := by
  unfold pureC at hc
  split at hc
  · rename_i ps hps
    obtain ⟨r, hr, he⟩ := Option.map_eq_some_iff.1 hc
    injection he with e1 e2
    subst e1 e2
    rw [allPV_some hps]
    exact h ps r hr
  · cases hc

theorem allPV_pvs : ∀ rs : List PV, ∀ x, allPV (rs.map AV.pv) = some x → x = rs := fun rs x h => by
  rw [allPV_map] at h
  exact (Option.some.inj h).symm

/-- A call of a function of plain values, in a run. -/
theorem qcall_pure {O : Orc} {H : List AObj} {f : Go.FuncId} {args : List AV} {ps rs : List PV} {g : List PV → Option (List PV)} (hf : ∀ ps : List PV, O.C f (ps.map AV.pv) [] = pureC g (ps.map AV.pv) []) (ha : argsPV H args = some ps) (hg : g ps = some rs) : qcall O H f args = some (retAV (rs.map AV.pv)) := by
  unfold qcall
  rw [ha]
  simp only [hf, pureC, allPV_map, hg, Option.map_some]

end Go.Abs

/- The abstract machine, part 27: maps from strings to numbers. -/
namespace Go.Abs

def mp (m : List (List UInt8 × Int)) : List (PV × PV) := m.map fun x => (.str x.1, .int .i64 x.2)

def mget (m : List (List UInt8 × Int)) (k : List UInt8) : Int := match m.find? (fun x => decide (x.1 = k)) with
  | some x => x.2
  | none => 0

def mput : List (List UInt8 × Int) → List UInt8 → Int → List (List UInt8 × Int)
  | [], k, v => [(k, v)]
  | x :: m, k, v => if x.1 = k then (k, v) :: m else x :: mput m k v

theorem mget_mput (m : List (List UInt8 × Int)) (k j : List UInt8) (v : Int) : mget (mput m k v) j = if j = k then v else mget m j := by
  induction m with
  | nil =>
    simp only [mput, mget, List.find?_cons, List.find?_nil]
    by_cases h : j = k
    · subst h
      simp
    · have h1 : ¬ k = j := fun e => h e.symm
      simp [h1, h]
  | cons x m ih =>
    simp only [mput]
    by_cases hx : x.1 = k
    · rw [if_pos hx]
      by_cases h : j = k
      · subst h
        simp [mget]
      · have h1 : ¬ k = j := fun e => h e.symm
        have h2 : ¬ x.1 = j := fun e => h (by rw [← e, hx])
        simp [mget, h, h1, h2]
    · rw [if_neg hx]
      by_cases h2 : x.1 = j
      · have h : ¬ j = k := fun e => hx (by rw [h2, e])
        simp [mget, h, h2]
      · have e1 : mget (x :: mput m k v) j = mget (mput m k v) j := by simp [mget, h2]
        have e2 : mget (x :: m) j = mget m j := by simp [mget, h2]
        rw [e1, e2, ih]

theorem findIn_mp (k : List UInt8) : ∀ (m : List (List UInt8 × Int)) (i : Nat), (m.find? (fun x => decide (x.1 = k)) = none ∧ findIn (.str k) (mp m) i = some none ∧ mput m k = fun v => m ++ [(k, v)]) ∨
    ∃ j n, findIn (.str k) (mp m) i = some (some (i + j, .int .i64 n)) ∧ mget m k = n ∧ j < m.length ∧ mput m k = fun v => m.set j (k, v)
  | [], i => .inl ⟨rfl, rfl, rfl⟩
  | x :: m, i => by
    by_cases hx : x.1 = k
    · refine .inr ⟨0, x.2, ?_, ?_, by simp, ?_⟩
      · simp [mp, findIn, keyEq, hx]
      · simp [mget, hx]
      · funext v
        simp [mput, hx]
    · have hk : (k == x.1) = false := by simpa using fun e => hx (Eq.symm e)
      rcases findIn_mp k m (i + 1) with ⟨h1, h2, h3⟩ | ⟨j, n, h1, h2, h3, h4⟩
      · refine .inl ⟨by simp [hx, h1], ?_, ?_⟩
        · simp only [mp, List.map_cons, findIn, keyEq, hk]
          exact h2
        · funext v
          simp [mput, hx, h3]
      · refine .inr ⟨j + 1, n, ?_, ?_, by simpa using h3, ?_⟩
        · simp only [mp, List.map_cons, findIn, keyEq, hk]
          rw [show i + (j + 1) = i + 1 + j from by omega]
          exact h1
        · rw [← h2]
          simp [mget, hx]
        · funext v
          simp [mput, hx, h4]

theorem qlookup_mp {T : Nat → Option TI} {H : List AObj} {t kt et : TypeId} {a b c d e f : Nat} {z z' : Option (List PV)} (h : T t = some ⟨.map kt et, a, b, z⟩) (hk : T kt = some ⟨.str, c, d, z'⟩) (he : T et = some ⟨.int .i64, e, f, some [.int .i64 0]⟩)
    {l : Nat} {m : List (List UInt8 × Int)} (hl : H[l]? = some (.map (mp m))) (k : List UInt8) : qlookup T H t (.mref l) (.pv (.str k)) false = some (.pv (.int .i64 (mget m k))) := by
  unfold qlookup
  simp only [h, hl, he, simpleKey, hk, if_true]
  rcases findIn_mp k m 0 with ⟨h1, h2, _⟩ | ⟨j, n, h1, h2, _⟩
  · simp [h2, zeroPV, mget, h1]
  · simp [h1, h2]

theorem emap_mp {E : Env} {H : List AObj} {t kt et : TypeId} {a b c d : Nat} {z z' : Option (List PV)} (h : E.T t = some ⟨.map kt et, a, b, z⟩) (hk : E.T kt = some ⟨.str, c, d, z'⟩)
    {l : Nat} {m : List (List UInt8 × Int)} (hl : H[l]? = some (.map (mp m))) (k : List UInt8) (v : Int) : emapUpdate E H t (.mref l) (.pv (.str k)) (.pv (.int .i64 v)) = some (H.set l (.map (mp (mput m k v)))) := by
  unfold emapUpdate
  simp only [h, toPV, hl, simpleKey, hk, if_true]
  rcases findIn_mp k m 0 with ⟨_, h2, h3⟩ | ⟨j, n, h1, _, _, h4⟩
  · rw [h2, h3]
    simp [mp]
  · rw [h1, h4]
    simp [mp, List.map_set]

/-! ### A call that is handed one object -/

theorem locsOf_pvs (H : List AObj) : ∀ ps : List PV, locsOf H (ps.map AV.pv) = []
  | [] => rfl
  | p :: ps => by simp [locsOf, toPV, locsOf_pvs H ps]

theorem renArgs_pvs (H : List AObj) (f : Nat → Option Nat) : ∀ ps : List PV, renArgs H f (ps.map AV.pv) = some (ps.map AV.pv)
  | [] => rfl
  | p :: ps => by simp [renArgs, toPV, renArgs_pvs H f ps]

def plainObj : AObj → Bool
  | .var _ => false
  | .hrow _ _ _ _ _ _ _ => false
  | _ => true

theorem ecall_one {O : Orc} {H : List AObj} {f : Go.FuncId} {l : Nat} {o o' : AObj} {a a' : AV} {ps rs : List PV} (ha : (a = .mref l ∧ a' = .mref 0) ∨ (∃ off, a = .ref l off ∧ a' = .ref 0 off)) (hl : H[l]? = some o) (ho : plainObj o = true) (ho' : plainObj o' = true)
    (hC : O.C f (a' :: ps.map AV.pv) [o] = some (rs.map AV.pv, [o'])) : ecall O H f (a :: ps.map AV.pv) = some (retAV (rs.map AV.pv), H.set l o') := by
  have hlt := (List.getElem?_eq_some_iff.1 hl).1
  have h1 : locsOf H (a :: ps.map AV.pv) = [l] := by
    rcases ha with ⟨rfl, _⟩ | ⟨off, rfl, _⟩ <;> simp [locsOf, toPV, locsOf_pvs]
  have h2 : innerLocs H [l] = [] := by
    cases o <;> simp [innerLocs, hl, plainObj] at ho ⊢
  have h3 : dedup ([l] ++ ([] : List Nat)) = [l] := by simp [dedup]
  have h4 : selObjs H (idx [l]) [l] = some [o] := by
    cases o <;> simp [selObjs, hl, AObj.ren, plainObj] at ho ⊢
  have h5 : renArgs H (idx [l]) (a :: ps.map AV.pv) = some (a' :: ps.map AV.pv) := by
    rcases ha with ⟨rfl, rfl⟩ | ⟨off, rfl, rfl⟩ <;> simp [renArgs, toPV, renArgs_pvs, AV.ren, idx]
  have h6 : backObjs H [l] [o'] = H.set l o' := by
    refine List.ext_getElem? fun i => ?_
    by_cases hi : i < H.length
    · rw [backObjs_old hi (by simp)]
      by_cases hil : i = l
      · subst hil
        have hm : ∀ g, o'.mapL g = o' := fun g => by cases o' <;> simp [AObj.mapL, plainObj] at ho' ⊢
        simp [idx, hi, hm]
      · have hli : ¬ l = i := fun e => hil e.symm
        simp [idx, hli]
    · rw [backObjs_new (by omega), List.getElem?_eq_none (l := [o']) (by simp), List.getElem?_eq_none (l := H.set l o') (by simp; omega)]
      rfl
  have h7 : (rs.map AV.pv).map (AV.mapL (backN H.length [l])) = rs.map AV.pv := by
    rw [List.map_map]
    rfl
  unfold ecall
  simp only [h1, h2, h3, h4, h5, hC, h6, h7]
  simp

theorem sl_scr {m : Nat} : ∀ {L : List (Nat × AV)}, (L.all fun p => p.2.ltB m) = true → ∀ i, scr m (sl L i) = sl L i
  | [], _, i => rfl
  | (j, v) :: r, h, i => by
    simp only [List.all_cons, Bool.and_eq_true] at h
    simp only [sl]
    split
    · unfold scr
      rw [if_pos h.1]
    · exact sl_scr h.2 i

/-- At a round's end: the objects from m on are forgotten. -/
theorem Weak.cut {E : Env} {k m n : Nat} {L : List (Nat × AV)} {H H' : List AObj} (hk : k ≤ m) (hH : H.take m = H') (ho : H'.all (AObj.ltB m) = true) (hL : (L.all fun p => p.2.ltB m) = true) : Weak E k ⟨sl L, n, H⟩ ⟨sl L, n, H'⟩ := by
  have h := Weak.scrub (E := E) (σ := ⟨sl L, n, H⟩) hk (by rw [hH]; exact ho)
  have e : Go.Abs.scrub m ⟨sl L, n, H⟩ = ⟨sl L, n, H'⟩ := by
    unfold Go.Abs.scrub
    simp only [hH]
    congr 1
    funext i
    exact sl_scr hL i
  rw [e] at h
  exact h

def mp? : List (PV × PV) → Option (List (List UInt8 × Int))
  | [] => some []
  | (.str k, .int .i64 n) :: r => (mp? r).map ((k, n) :: ·)
  | _ => none

theorem mp?_mp : ∀ m : List (List UInt8 × Int), mp? (mp m) = some m
  | [] => rfl
  | x :: m => by
    have := mp?_mp m
    simp only [mp] at this
    simp [mp, mp?, this]

theorem mp?_some : ∀ {es : List (PV × PV)} {m : List (List UInt8 × Int)}, mp? es = some m → es = mp m
  | [], m, h => by simp only [mp?, Option.some.injEq] at h; subst h; rfl
  | e :: es, m, h => by
    unfold mp? at h
    split at h
    · simp only [Option.some.injEq] at h; subst h; rename_i h0; exact h0
    · rename_i k n r heq
      obtain ⟨m', hm, rfl⟩ := Option.map_eq_some_iff.1 h
      injection heq with h1 h2
      subst h1 h2
      rw [mp?_some hm]
      rfl
    · cases h

end Go.Abs

/- The abstract machine, part 28: functions of the library, by their contracts. -/
namespace Go.Abs
open Go.RowKit

/-- A function known by a contract: it takes and gives plain values; what it leaves below the old heap is as it was. -/
theorem Good.lib {E : Env} {f : FuncId} {ps rs : List PV}
    (h : ∀ (w : World) (Φ : Nat → Nat → Prop) (vs : List Value), E.GI w → (∀ b k, Φ b k → b < w.heap.size) → vs.length = ps.length → (∀ (i : Nat) v p, vs[i]? = some v → ps[i]? = some p → Rep Φ w v p) →
      Calls E.P f ⟨vs⟩ w fun e w' => ∃ (us : List Value) (Φ' : Nat → Nat → Prop), e = .returned (retV us) ∧ us.length = rs.length ∧ Below w.heap.size w w' ∧ (∀ b k, Φ b k → Φ' b k) ∧ (∀ b k, Φ' b k → b < w.heap.size → Φ b k) ∧ (∀ b k, Φ' b k → b < w'.heap.size) ∧
        ∀ (i : Nat) u r, us[i]? = some u → rs[i]? = some r → Rep Φ' w' u r) : Good E f (ps.map AV.pv) [] (rs.map AV.pv) [] := by
  intro w Φ γ cargs hI hl hr
  refine (h w Φ cargs hI.gi hI.phi (by simpa using hl) (fun i v p hv hp => ?_)).mono fun e w' ⟨us, Φ', he, hul, hb, h1, h2, h3, h4⟩ => ?_
  · exact arel_pv (hr i v (.pv p) hv (by rw [List.getElem?_map, hp]; rfl))
  · refine ⟨us, γ, Φ', he, hI.grow hb.block hb.size hb.os hb.tape hb.output h1 h2 h3, by simpa using hul, fun i v a hv ha => ?_⟩
    rw [List.getElem?_map] at ha
    obtain ⟨p, hp, rfl⟩ := Option.map_eq_some_iff.1 ha
    exact .pv (h4 i v p hv hp)

theorem strs_cells {Φ : Nat → Nat → Prop} {w : World} {v : Value} {xs : List (List UInt8)} (h : Rep Φ w v (.slice (xs.map PV.str))) :
    (v = .slice none 0 0 ∧ xs = []) ∨ (∃ A cap, v = .slice (some A) 0 cap ∧ xs = [] ∧ cap ≤ maxLen) ∨
    ∃ b o cap, v = .slice (some ⟨b, o, none⟩) xs.length cap ∧ xs.length ≤ cap ∧ cap ≤ maxLen ∧ ∀ (k : Nat) x, xs[k]? = some x → Φ b (o + k) ∧ w.cell? ⟨b, o + k, none⟩ = some (.string ⟨⟨x⟩⟩) := by
  generalize hp : PV.slice (xs.map PV.str) = p at h
  cases h with
  | sliceNil =>
    injection hp with hp
    exact .inl ⟨rfl, by simpa using hp⟩
  | sliceAny A cap hm =>
    injection hp with hp
    exact .inr (.inl ⟨A, cap, rfl, by simpa using hp, hm⟩)
  | slice b o len cap sz ys vs hl hc hm hsz h1 hcell hrep =>
    injection hp with hp
    subst hp
    have hfl : flat (xs.map PV.str) = xs.map PV.str := by
      induction xs with
      | nil => rfl
      | cons x xs ih =>
        rw [List.map_cons, flat_cons]
        show PV.str x :: flat (xs.map PV.str) = _
        have : ∀ ys : List (List UInt8), flat (ys.map PV.str) = ys.map PV.str := by
          intro ys
          induction ys with
          | nil => rfl
          | cons y ys ih => rw [List.map_cons, flat_cons, ih]; rfl
        rw [this]
    simp only [List.length_map] at hl
    subst hl
    refine .inr (.inr ⟨b, o, cap, rfl, hc, hm, fun k x hx => ?_⟩)
    rw [hfl] at hcell hrep
    have hk : k < xs.length := (List.getElem?_eq_some_iff.1 hx).1
    obtain ⟨hφ, hcl⟩ := hcell k (by simpa using hk)
    have hr := hrep k (.str x) (by rw [List.getElem?_map, hx]; rfl)
    generalize vs k = u at hr hcl
    cases hr with
    | str s => exact ⟨hφ, hcl⟩
  | bool b => cases hp
  | int k n => cases hp
  | str s => cases hp
  | nil => cases hp
  | ifc t v => cases hp
  | agg vs cs hl h1 hrep => cases hp

end Go.Abs
