import Derived.Test.YtkiajanddmgmnaaGreatDoorA11
import Derived.Maps.AppendAt
/- The abstract machine, part 12: append. -/
namespace Go.Abs
open Go.RowKit

/-- What append does to memory: it writes behind what is there, or makes a new block. -/
structure Grew (w w' : World) (v v' : Value) : Prop where
  os : w'.os = w.os
  tape : w'.tape = w.tape
  output : w'.output = w.output
  size : w.heap.size ≤ w'.heap.size
  way : (v'.ownBlock = some w.heap.size ∧ w.heap.size < w'.heap.size ∧ ∀ b, b < w.heap.size → w'.heap[b]? = w.heap[b]?) ∨
    (v'.ownBlock = v.ownBlock ∧ w'.heap.size = w.heap.size ∧ ∀ b, some b ≠ v.ownBlock → w'.heap[b]? = w.heap[b]?)

def eappend (E : Env) (H : List AObj) (ty : TypeId) (x y : AV) : Option (AV × List AObj) :=
  match E.T ty with
  | some ⟨.slice e, _, _, _⟩ => match E.T e, toPV H y with
    | some te, some (.slice ys) =>
      if te.size ≠ 0 ∧ te.bytes ≠ 0 ∧ te.zero.isSome = true ∧ (ys.all fun z => z.cells.length == te.size) = true then
        match x with
        | .nils => if ys.length * te.bytes ≤ 140737488355328 then some (.vec H.length ys.length, H ++ [.row e te.size ys true]) else none
        | .full xs => if (xs.length + ys.length) * te.bytes ≤ 140737488355328 ∧ ys.isEmpty = false ∧ (xs.all fun z => z.cells.length == te.size) = true then
            some (.vec H.length (xs.length + ys.length), H ++ [.row e te.size (xs ++ ys) true]) else none
        | .vec l n => match H[l]? with
          | some (.row e' sz xs fz) => if n = xs.length ∧ e' = e ∧ sz = te.size ∧ (xs.length + ys.length) * te.bytes ≤ 140737488355328 then
              some (.vec l (xs.length + ys.length), H.set l (.row e' sz (xs ++ ys) fz)) else none
          | _ => none
        | _ => none
      else none
    | _, _ => none
  | _ => none

section
variable {P : Program} {w : World}

/-- The source of an append: a slice whose cells are these. -/
def Src (w : World) (size m : Nat) (v : Value) (news : List Value) : Prop :=
  news.length = m * size ∧ (∀ u ∈ news, u.oneCell' = true) ∧ ((v = .slice none 0 0 ∧ m = 0) ∨ ∃ a c, v = .slice (some a) m c ∧ ∀ (j : Nat) u, news[j]? = some u → w.cell? (a.add j) = some u)

theorem append_nothing (t ty e : TypeId) (i : TypeInfo) (ht : P.underlying t = some (.slice e)) (hi : P.info? e = some i) (A : Option Addr) (n cap : Nat) (hn : n ≤ cap) :
    (Builtin.append_ #[t, t] ty #[.slice A n cap, .slice none 0 0]).run P w = .ok (.slice A n cap) w := by
  cases A <;> simp [Builtin.append_, run_underlying ht, sizeOf, typeInfo, hi, Builtin.lenOf, Builtin.firstCells, hn, storeCells]

theorem grownRow (e : TypeId) (i : TypeInfo) (z : Value) (hzs : z.cells.size = i.size) (xs news : List Value) (n m old : Nat) (hx : xs.length = n * i.size) (hl : news.length = m * i.size) (h63 : n + m ≤ maxLen) :
    (w.drew.alloc (.cells (xs.toArray ++ news.toArray ++ Builtin.zeroCells z.cells (grownCap w (n + m) old e - (n + m))) e)).ownsRow 0 e i.size
      (.slice (some ⟨w.heap.size, 0, none⟩) (n + m) (grownCap w (n + m) old e)) (n + m) (xs ++ news) := by
  have hlen : (xs ++ news).length = (n + m) * i.size := by rw [List.length_append, hx, hl, Nat.add_mul]
  have hge := grownCap_ge w (n + m) old e
  refine ⟨hlen, .inr ⟨w.heap.size, _, _, rfl, Nat.zero_le _, heap_alloc_new w.drew _, hge, grownCap_le_maxLen w (n + m) old e h63, ?_, ?_⟩⟩
  · simp only [Array.size_append, List.size_toArray, size_zeroCells, hzs, hx, hl, ← Nat.add_mul]
    congr 1
    omega
  · simp only [Array.toList_append, List.append_assoc]
    rw [← List.append_assoc, ← hlen]
    exact List.take_left

theorem grew_new (v : Value) (cs : Array Value) (e : TypeId) (n c : Nat) : Grew w (w.drew.alloc (.cells cs e)) v (.slice (some ⟨w.heap.size, 0, none⟩) n c) :=
  ⟨rfl, rfl, rfl, by simp, .inl ⟨rfl, by simp, fun b hb => heap_alloc_old w.drew _ b hb⟩⟩

theorem append_own (t ty e : TypeId) (i : TypeInfo) (z : Value) (ht : P.underlying t = some (.slice e)) (hi : P.info? e = some i) (hz : i.zero = some z) (hzs : z.cells.size = i.size)
    (v : Value) (n : Nat) (xs : List Value) (hown : w.ownsRow 0 e i.size v n xs) (x : Value) (m : Nat) (news : List Value) (hsrc : Src w i.size m x news)
    (h63 : n + m ≤ maxLen) (hbytes : (n + m) * i.bytes ≤ 140737488355328) :
    ∃ v' w', (Builtin.append_ #[t, t] ty #[v, x]).run P w = .ok v' w' ∧ w'.ownsRow 0 e i.size v' (n + m) (xs ++ news) ∧ Grew w w' v v' ∧ (m = 0 → v' = v) := by
  obtain ⟨hl, h1, hx⟩ := hsrc
  have hsmall : n + m ≤ 9223372036854775807 := by unfold maxLen at h63; omega
  rcases hx with ⟨rfl, rfl⟩ | ⟨a, c, rfl, hnews⟩
  · have hnil : news = [] := List.eq_nil_of_length_eq_zero (by simpa using hl)
    subst hnil
    refine ⟨v, w, ?_, by simpa using hown, ⟨rfl, rfl, rfl, Nat.le_refl _, .inr ⟨rfl, rfl, fun _ _ => rfl⟩⟩, fun _ => rfl⟩
    rcases hown.2 with ⟨rfl, rfl⟩ | ⟨g, cap, cur, rfl, _, _, hnc, _⟩
    · exact append_nothing t ty e i ht hi none 0 0 (Nat.le_refl _)
    · exact append_nothing t ty e i ht hi _ n cap hnc
  · rcases hown.2 with ⟨rfl, rfl⟩ | ⟨g, cap, cur, rfl, hbg, hg, hnc, hcm, hcs, htake⟩
    · have hx : xs = [] := List.eq_nil_of_length_eq_zero (by simpa using hown.1)
      subst hx
      by_cases hm : m = 0
      · subst hm
        have hn : news = [] := List.eq_nil_of_length_eq_zero (by simpa using hl)
        subst hn
        refine ⟨.slice none 0 0, w, ?_, World.ownsRow_nil w 0 e i.size, ⟨rfl, rfl, rfl, Nat.le_refl _, .inr ⟨rfl, rfl, fun _ _ => rfl⟩⟩, fun _ => rfl⟩
        simp [Builtin.append_, run_underlying ht, sizeOf, typeInfo, hi, Builtin.lenOf, Builtin.firstCells, loadCells, loadCellsFrom]
      · have hr := run_append_nil (P := P) w t ty e i z ht hi hz a m c news hl hnews (by omega) (by omega) (by have hb := hbytes; simp only [Nat.zero_add] at hb; omega)
        have hgr := grownRow (w := w) e i z hzs [] news 0 m 0 (by simp) hl h63
        simp only [Nat.zero_add, List.nil_append, Array.empty_append] at hgr ⊢
        exact ⟨_, _, hr, hgr, grew_new _ _ _ _ _, fun h => absurd h hm⟩
    · by_cases hroom : n + m ≤ cap
      · have hfit : n * i.size + news.length ≤ cur.size := by rw [hl, hcs, ← Nat.add_mul]; exact Nat.mul_le_mul_right _ hroom
        have hr := run_append_room (P := P) w t ty e i ht hi g n cap cur hg a m c news hl hnews h1 hroom hfit
        have hlen : (xs ++ news).length = (n + m) * i.size := by rw [List.length_append, hown.1, hl, Nat.add_mul]
        refine ⟨_, _, hr, ⟨hlen, .inr ⟨g, cap, _, rfl, hbg, setRow_heap w g cur _ e _ hg, hroom, hcm, ?_, ?_⟩⟩, ⟨rfl, rfl, rfl, by simp, .inr ⟨rfl, by simp, fun b hb => setRow_other w g b _ (fun e => hb (by simp [Value.ownBlock, e]))⟩⟩, fun h => by rw [h]; rfl⟩
        · simp only [List.size_toArray, List.length_append, List.length_take, List.length_drop, Array.length_toList]
          omega
        · rw [htake, ← hlen]
          exact List.take_left
      · have holds : ∀ (j : Nat) u, xs[j]? = some u → w.cell? ((⟨g, 0, none⟩ : Addr).add j) = some u := hown.cells (g := g) rfl
        have hr := run_append_grow (P := P) w t ty e i z ht hi hz ⟨g, 0, none⟩ n cap xs hown.1 holds a m c news hl hnews (by omega) (by omega) (growslice_fits (by omega) hbytes)
        exact ⟨_, _, hr, grownRow e i z hzs xs news n m cap hown.1 hl h63, grew_new _ _ _ _ _, fun h => by omega⟩

/-- A full slice grows into a new block. -/
theorem append_full (t ty e : TypeId) (i : TypeInfo) (z : Value) (ht : P.underlying t = some (.slice e)) (hi : P.info? e = some i) (hz : i.zero = some z) (hzs : z.cells.size = i.size)
    (v : Value) (n : Nat) (xs : List Value) (hx : Src w i.size n v xs) (hfull : ∃ A, v = .slice A n n) (x : Value) (m : Nat) (news : List Value) (hsrc : Src w i.size m x news) (hm : 0 < m)
    (h63 : n + m ≤ maxLen) (hbytes : (n + m) * i.bytes ≤ 140737488355328) :
    ∃ v' w', (Builtin.append_ #[t, t] ty #[v, x]).run P w = .ok v' w' ∧ w'.ownsRow 0 e i.size v' (n + m) (xs ++ news) ∧ Grew w w' (.slice none 0 0) v' := by
  obtain ⟨hl, h1, hx2⟩ := hsrc
  obtain ⟨hxl, _, hxx⟩ := hx
  obtain ⟨A, rfl⟩ := hfull
  have hsmall : n + m ≤ 9223372036854775807 := by unfold maxLen at h63; omega
  rcases hx2 with ⟨_, rfl⟩ | ⟨a, c, rfl, hnews⟩
  · omega
  · rcases hxx with ⟨he, rfl⟩ | ⟨b, c', he, holds⟩
    · injection he with he
      subst he
      have hx : xs = [] := List.eq_nil_of_length_eq_zero (by simpa using hxl)
      subst hx
      have hr := run_append_nil (P := P) w t ty e i z ht hi hz a m c news hl hnews (by omega) (by omega) (by have hb := hbytes; simp only [Nat.zero_add] at hb; omega)
      have hgr := grownRow (w := w) e i z hzs [] news 0 m 0 (by simp) hl h63
      simp only [Nat.zero_add, List.nil_append, Array.empty_append] at hgr ⊢
      exact ⟨_, _, hr, hgr, grew_new _ _ _ _ _⟩
    · injection he with he
      subst he
      have hr := run_append_grow (P := P) w t ty e i z ht hi hz b n n xs hxl holds a m c news hl hnews (by omega) (by omega) (growslice_fits (by omega) hbytes)
      exact ⟨_, _, hr, grownRow e i z hzs xs news n m n hxl hl h63, grew_new _ _ _ _ _⟩

end
end Go.Abs
