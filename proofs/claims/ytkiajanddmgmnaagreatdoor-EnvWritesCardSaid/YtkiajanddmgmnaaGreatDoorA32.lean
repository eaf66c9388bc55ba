import Derived.Test.YtkiajanddmgmnaaGreatDoorA31
import Derived.Lib.AppendStr
import Derived.Shelf.Strings.Builder1
/- The abstract machine, part 32: strings.Builder, with a frame that names every block. -/
namespace Go.Abs
open Go.RowKit Go.Shelf Go.Proofs

section
variable {P : Program} {w : World}

theorem strRow (e : TypeId) (i : TypeInfo) (hsize : i.size = 1) (xs news : List Value) (n m old : Nat) (hx : xs.length = n * 1) (hl : news.length = m) (h63 : n + m ≤ maxLen) :
    (w.drew.alloc (.cells (xs.toArray ++ news.toArray ++ Builtin.zeroCells (Value.int .u8 0).cells (grownCap w (n + m) old e - (n + m))) e)).ownsRow 0 e 1
      (.slice (some ⟨w.heap.size, 0, none⟩) (n + m) (grownCap w (n + m) old e)) (n + m) (xs ++ news) := by
  have h := grownRow (w := w) e i (.int .u8 0) (by rw [hsize]; rfl) xs news n m old (by rw [hsize]; exact hx) (by rw [hsize, Nat.mul_one]; exact hl) h63
  rw [hsize] at h
  exact h

/-- A string's bytes behind a row of bytes that the call owns. -/
theorem append_own_str (t u ty e : TypeId) (i : TypeInfo) (ht : P.underlying t = some (.slice e)) (hu : P.underlying u = some .string) (hi : P.info? e = some i) (hz : i.zero = some (.int .u8 0)) (hsize : i.size = 1) (hby : i.bytes = 1)
    (v : Value) (n : Nat) (xs : List Value) (hown : w.ownsRow 0 e 1 v n xs) (s : ByteArray) (h63 : n + s.size ≤ maxLen) (hbytes : n + s.size ≤ 140737488355328) :
    ∃ v' w', (Builtin.append_ #[t, u] ty #[v, .string s]).run P w = .ok v' w' ∧ w'.ownsRow 0 e 1 v' (n + s.size) (xs ++ Lib.strCells s) ∧ Grew w w' v v' := by
  have hxl : xs.length = n * 1 := hown.1
  have hsmall : n + s.size ≤ 9223372036854775807 := by unfold maxLen at h63; omega
  have hlen : (xs ++ Lib.strCells s).length = (n + s.size) * 1 := by rw [List.length_append, hxl, Lib.strCells_length, Nat.mul_one, Nat.mul_one]
  rcases hown.2 with ⟨rfl, rfl⟩ | ⟨g, cap, cur, rfl, hbg, hg, hnc, hcm, hcs, htake⟩
  · have hx : xs = [] := List.eq_nil_of_length_eq_zero (by simpa using hxl)
    subst hx
    by_cases hm : s.size = 0
    · have hn : Lib.strCells s = [] := List.eq_nil_of_length_eq_zero (by rw [Lib.strCells_length]; exact hm)
      refine ⟨.slice none 0 0, w, ?_, by rw [hm, hn]; exact World.ownsRow_nil w 0 e 1, ⟨rfl, rfl, rfl, Nat.le_refl _, .inr ⟨rfl, rfl, fun _ _ => rfl⟩⟩⟩
      have hf := Lib.run_firstCells_string (P := P) w 1 s
      rw [hm] at hf
      simp [Builtin.append_, run_underlying ht, run_underlying hu, sizeOf, typeInfo, hi, hsize, Builtin.lenOf, hm, hf]
    · have hr := run_append_nil_string (P := P) w t u ty e i (.int .u8 0) ht hu hi hz s (by omega) (by omega) (by rw [hby]; omega)
      have hgr := strRow (w := w) e i hsize [] (Lib.strCells s) 0 s.size 0 (by simp) (Lib.strCells_length s) h63
      simp only [Nat.zero_add, List.nil_append, Array.empty_append] at hgr ⊢
      have e1 : (s.data.map fun b => Value.int .u8 b.toNat) = (Lib.strCells s).toArray := by
        apply Array.ext'
        simp [Lib.strCells]
      rw [e1] at hr
      exact ⟨_, _, hr, hgr, grew_new _ _ _ _ _⟩
  · by_cases hroom : n + s.size ≤ cap
    · have hcs' : cur.size = cap := by simpa using hcs
      have hr := Lib.run_append_room_string (P := P) w t u ty e i ht hu hi hsize g n cap cur hg s hroom (by omega)
      refine ⟨_, _, hr, ⟨hlen, .inr ⟨g, cap, _, rfl, hbg, setRow_heap w g cur _ e _ hg, hroom, hcm, ?_, ?_⟩⟩, ⟨rfl, rfl, rfl, by simp, .inr ⟨rfl, by simp, fun b hb => setRow_other w g b _ (fun e => hb (by simp [Value.ownBlock, e]))⟩⟩⟩
      · simp only [List.size_toArray, List.length_append, List.length_take, List.length_drop, Array.length_toList, Lib.strCells_length]
        omega
      · have ht' : cur.toList.take n = xs := by simpa using htake
        rw [ht', ← hlen]
        exact List.take_left
    · have holds : ∀ (j : Nat) u, xs[j]? = some u → w.cell? ((⟨g, 0, none⟩ : Addr).add j) = some u := hown.cells (g := g) rfl
      have hr := Lib.run_append_grow_string (P := P) w t u ty e i (.int .u8 0) ht hu hi hz ⟨g, 0, none⟩ n cap xs (by rw [hsize]; exact hxl) holds s (by omega) (by omega) (by rw [hby]; exact growslice_fits (by omega) (by omega))
      exact ⟨_, _, hr, strRow e i hsize xs (Lib.strCells s) n s.size cap hxl (Lib.strCells_length s) h63, grew_new _ _ _ _ _⟩

theorem wpList_append_str {ops : Array Oper} {rest : List Oper} {o : Oper} {a : Act} {Q : Exit → Act → World → Prop} (hgd : o.guard = none) (sl x : Operand) (t u : TypeId)
    (ho : o.op = .call { callee := .builtin .append, args := #[sl, x], argTypes := #[t, u] }) (e : TypeId) (i : TypeInfo) (ht : P.underlying t = some (.slice e)) (hu : P.underlying u = some .string) (hi : P.info? e = some i) (hz : i.zero = some (.int .u8 0))
    (hsize : i.size = 1) (hby : i.bytes = 1) (v : Value) (n : Nat) (xs : List Value) (hs : a.eval sl = v) (hown : w.ownsRow 0 e 1 v n xs) (s : ByteArray) (hx : a.eval x = .string s)
    (h63 : n + s.size ≤ maxLen) (hbytes : n + s.size ≤ 140737488355328)
    (h : ∀ v' w', w'.ownsRow 0 e 1 v' (n + s.size) (xs ++ Lib.strCells s) → Grew w w' v v' → wpList P ops Q rest (a.put o.dst v') w') : wpList P ops Q (o :: rest) a w := by
  refine wpList_plain hgd fun K hK => ?_
  obtain ⟨v', w', hr, h2, h3⟩ := append_own_str (P := P) (w := w) t u o.type e i ht hu hi hz hsize hby v n xs hown s h63 hbytes
  unfold Oper.wp execOp
  simp only [ho, resolve, invoke, builtin, Sem.run_bind, Sem.run_pure, Result.andThen_ok, List.map_toArray, List.map_cons, List.map_nil, hs, hx, hr]
  exact hK _ _ (h v' w' h2 h3)

end

section
variable {P : Program} {ρ : Ren}

theorem Grew.old {w w' : World} {v v' : Value} (h : Grew w w' v v') {b : Nat} (hb : b < w.heap.size) (hn : v.ownBlock ≠ some b) : w'.heap[b]? = w.heap[b]? := by
  rcases h.way with ⟨_, _, k⟩ | ⟨_, _, k⟩
  · exact k b hb
  · exact k b (fun e => hn e.symm)

theorem Grew.blk {w w' : World} {v v' : Value} (h : Grew w w' v v') {b : Nat} (hb : v'.ownBlock = some b) : v.ownBlock = some b ∨ b = w.heap.size := by
  rcases h.way with ⟨k, _, _⟩ | ⟨k, _, _⟩
  · rw [k] at hb
    injection hb with hb
    exact .inr hb.symm
  · rw [k] at hb
    exact .inl hb

/-- What a write to a builder leaves. -/
structure Wrote (T e : TypeId) (b : Nat) (v : Value) (bs : List Value) (w w' : World) : Prop where
  os : w'.os = w.os
  tape : w'.tape = w.tape
  output : w'.output = w.output
  size : w.heap.size ≤ w'.heap.size
  old : ∀ k, k < w.heap.size → k ≠ b → v.ownBlock ≠ some k → w'.heap[k]? = w.heap[k]?
  now : ∃ v', w'.heap[b]? = some (.cells #[.pointer (some ⟨b, 0, none⟩), v'] T (0, 0)) ∧ w'.ownsRow 0 e 1 v' bs.length bs ∧ v'.ownBlock ≠ some b ∧ ∀ k, v'.ownBlock = some k → (v.ownBlock = some k ∨ w.heap.size ≤ k) ∧ k < w'.heap.size

theorem setCell_other (w : World) (b j k : Nat) (v : Value) (h : k ≠ b) : (w.setCell ⟨b, j, none⟩ v).heap[k]? = w.heap[k]? := Below.heap_setCell _ _ _ _ (fun e => h e)

theorem setCell_0 {w : World} {b : Nat} {p v q : Value} {T : TypeId} (h : w.heap[b]? = some (.cells #[p, v] T (0, 0))) : (w.setCell ⟨b, 0, none⟩ q).heap[b]? = some (.cells #[q, v] T (0, 0)) := by
  simp [World.setCell, Array.getElem?_modify, h]

theorem setCell_1 {w : World} {b : Nat} {p v q : Value} {T : TypeId} (h : w.heap[b]? = some (.cells #[p, v] T (0, 0))) : (w.setCell ⟨b, 1, none⟩ q).heap[b]? = some (.cells #[p, q] T (0, 0)) := by
  simp [World.setCell, Array.getElem?_modify, h]

theorem setCell_size (w : World) (a : Addr) (v : Value) : (w.setCell a v).heap.size = w.heap.size := by simp [World.setCell]

/-- What a builder is, and where. -/
structure Bld (T e : TypeId) (b : Nat) (p v : Value) (bs : List Value) (w : World) : Prop where
  addr : p = .pointer none ∨ p = .pointer (some ⟨b, 0, none⟩)
  here : w.heap[b]? = some (.cells #[p, v] T (0, 0))
  owns : w.ownsRow 0 e 1 v bs.length bs
  apart : v.ownBlock ≠ some b

theorem Bld.lt {T e : TypeId} {b : Nat} {p v : Value} {bs : List Value} {w : World} (h : Bld T e b p v bs w) : b < w.heap.size := (Array.getElem?_eq_some_iff.1 h.here).1

theorem copyCheck_x (L : Lays.n240 P ρ) (X : Builder.X72 P ρ) {b : Nat} {p v : Value} {bs : List Value} {w : World} (h : Bld (ρ.t 72) (ρ.t 5) b p v bs w) :
    Calls P (ρ.f 240) #[.pointer (some ⟨b, 0, none⟩)] w fun e w' => e = .returned (.tuple #[]) ∧ Bld (ρ.t 72) (ρ.t 5) b (.pointer (some ⟨b, 0, none⟩)) v bs w' ∧ w'.os = w.os ∧ w'.tape = w.tape ∧ w'.output = w.output ∧ w'.heap.size = w.heap.size ∧ ∀ k, k ≠ b → w'.heap[k]? = w.heap[k]? := by
  have hc : w.cell? ⟨b, 0, none⟩ = some p := by rw [Lib.cell_of_heap h.here]; rfl
  rcases h.addr with rfl | rfl
  · refine (Any.Builder_copyCheck_fresh L X b w hc (by simp [World.shape?, h.here]) (Lib.frozen_of_heap h.here 0)).mono ?_
    rintro e w' ⟨rfl, rfl⟩
    refine ⟨rfl, ⟨.inr rfl, setCell_0 h.here, ownsRow_of_heap h.owns fun k hk => setCell_other _ _ _ _ _ (fun e => h.apart (by rw [hk, e])), h.apart⟩, rfl, rfl, rfl, setCell_size _ _ _, fun k hk => setCell_other _ _ _ _ _ hk⟩
  · refine (Any.Builder_copyCheck_used L X b w hc).mono ?_
    rintro e w' ⟨rfl, rfl⟩
    exact ⟨rfl, h, rfl, rfl, rfl, rfl, fun _ _ => rfl⟩

set_option maxHeartbeats 2000000 in
set_option maxRecDepth 100000 in
theorem writeString_x (L : Lays.n166 P ρ) (X : Builder.Extra P ρ) {b : Nat} {p v : Value} {bs : List Value} {w : World} (s : ByteArray) (h : Bld (ρ.t 72) (ρ.t 5) b p v bs w) (hlen : bs.length + s.size ≤ 140737488355328) :
    Calls P (ρ.f 166) #[.pointer (some ⟨b, 0, none⟩), .string s] w fun e w' => e = .returned (.tuple #[.int .i64 s.size, .nilIface]) ∧ Wrote (ρ.t 72) (ρ.t 5) b v (bs ++ Lib.strCells s) w w' := by
  obtain ⟨i0, hi, hz0, hz1, hz2⟩ := info_parts X.infoByte
  have mixed := L.mixed
  have t72 := L.t72; have a72 := L.a72; have z72 := L.z72; have v72 := L.v72; have u72 := run_underlying L.t72
  have t70 := L.t70; have a70 := L.a70; have z70 := L.z70; have v70 := L.v70; have u70 := run_underlying L.t70
  have t37 := L.t37; have a37 := L.a37; have z37 := L.z37; have v37 := L.v37; have u37 := run_underlying L.t37
  have t3 := L.t3; have a3 := L.a3; have z3 := L.z3; have v3 := L.v3; have u3 := run_underlying L.t3
  have t9 := L.t9; have a9 := L.a9; have z9 := L.z9; have v9 := L.v9; have u9 := run_underlying L.t9
  have t4 := L.t4; have a4 := L.a4; have z4 := L.z4; have v4 := L.v4; have u4 := run_underlying L.t4
  have t164 := L.t164; have a164 := L.a164; have z164 := L.z164; have v164 := L.v164; have u164 := run_underlying L.t164
  have t5 := X.t5; have a5 := X.a5; have z5 := X.z5; have v5 := X.v5; have u5 := run_underlying X.t5
  have e240 : ∀ args w, (callFunc (ρ.f 240) args).run P w = .ok (.enter (ρ.f 240) args) w := enters_of L.f240 (by kernel_rfl) rfl
  go_enter L.f166, Body.n166_ntmps ρ
  go_wp2_with (go_at_fn (ρ.f 240); refine (copyCheck_x { L with } X.toX72 h).mono ?_)
  rintro e w1 ⟨rfl, h1, ho1, ht1, hu1, hs1, hk1⟩
  have hbk := h1.here
  have hown := h1.owns
  have hne := h1.apart
  have c0 : w1.cell? ⟨b, 0, none⟩ = some (.pointer (some ⟨b, 0, none⟩)) := by rw [Lib.cell_of_heap hbk]; rfl
  have c1 : w1.cell? ⟨b, 1, none⟩ = some v := by rw [Lib.cell_of_heap hbk]; rfl
  go_wp2_with (at_builtin; refine wpList_append_str rfl _ _ (ρ.t 37) (ρ.t 9) rfl (ρ.t 5) i0 L.t37 L.t9 hi hz0 hz1 hz2 _ _ _ rfl hown s rfl ?c3 ?c4 ?_)
  case c3 => unfold maxLen; omega
  case c4 => omega
  intro v' w2 hown' hgrow
  have hlt : b < w1.heap.size := h1.lt
  have hb2 : w2.heap[b]? = some (.cells #[.pointer (some ⟨b, 0, none⟩), v] (ρ.t 72) (0, 0)) := by
    rw [hgrow.old hlt hne]
    exact hbk
  have d0 : w2.cell? ⟨b, 0, none⟩ = some (.pointer (some ⟨b, 0, none⟩)) := by rw [Lib.cell_of_heap hb2]; rfl
  have d1 : w2.cell? ⟨b, 1, none⟩ = some v := by rw [Lib.cell_of_heap hb2]; rfl
  have f1 : w2.frozen? ⟨b, 1, none⟩ = false := Lib.frozen_of_heap hb2 1
  obtain ⟨ao, n', cap, rfl⟩ : ∃ ao n' cap, v' = .slice ao n' cap := by
    rcases hown'.2 with ⟨hv, _⟩ | ⟨g, cap, cur, hv, _⟩
    · exact ⟨_, _, _, hv⟩
    · exact ⟨_, _, _, hv⟩
  have hne' := Lib.ownBlock_ne hown' hb2 X.neB5
  have hsz := hgrow.size
  go_wp2
  go_ret2
  refine ⟨rfl, hgrow.os.trans ho1, hgrow.tape.trans ht1, hgrow.output.trans hu1, ?_, fun k hk hkb hkv => ?_, ?_⟩
  · show w.heap.size ≤ (w2.setCell ⟨b, 1, none⟩ _).heap.size
    rw [setCell_size]
    omega
  · show (w2.setCell ⟨b, 1, none⟩ _).heap[k]? = _
    rw [setCell_other _ _ _ _ _ hkb, hgrow.old (by omega) hkv, hk1 k hkb]
  · refine ⟨_, setCell_1 hb2, ?_, hne', fun k hk => ⟨?_, ?_⟩⟩
    · have : (bs ++ Lib.strCells s).length = bs.length + s.size := by rw [List.length_append, Lib.strCells_length]
      rw [this]
      exact ownsRow_of_heap hown' fun k hk => setCell_other _ _ _ _ _ (fun e => hne' (by rw [hk, e]))
    · rcases hgrow.blk hk with h2 | h2
      · exact .inl h2
      · exact .inr (by omega)
    · show k < (w2.setCell ⟨b, 1, none⟩ _).heap.size
      rw [setCell_size]
      rcases hown'.2 with ⟨hv, _⟩ | ⟨g, cap, cur, hv, _, hg, _⟩
      · rw [hv] at hk
        cases hk
      · rw [hv] at hk
        injection hk with hk
        subst hk
        exact (Array.getElem?_eq_some_iff.1 hg).1

end
end Go.Abs
