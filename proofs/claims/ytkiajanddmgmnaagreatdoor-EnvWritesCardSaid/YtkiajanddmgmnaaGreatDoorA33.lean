import Derived.Test.YtkiajanddmgmnaaGreatDoorA32
/- The abstract machine, part 33: strings.Builder's functions, as functions of objects. -/
namespace Go.Abs
open Go.RowKit Go.Shelf Go.Proofs

section
variable {P : Program} {ρ : Ren}

/-- What String leaves: the builder's own row may have turned. -/
structure ReadB (v : Value) (w w' : World) : Prop where
  os : w'.os = w.os
  tape : w'.tape = w.tape
  output : w'.output = w.output
  size : w.heap.size ≤ w'.heap.size
  old : ∀ k, k < w.heap.size → v.ownBlock ≠ some k → w'.heap[k]? = w.heap[k]?

theorem ReadB.of_below {v : Value} {w w' : World} (h : Below w.heap.size w w') : ReadB v w w' := ⟨h.os, h.tape, h.output, h.size, fun k hk _ => h.block k hk⟩

set_option maxHeartbeats 2000000 in
set_option maxRecDepth 100000 in
theorem string_one (L : Lays.n169 P ρ) (X : Builder.Extra P ρ) {b : Nat} {p v : Value} {l : List UInt8} {w : World} (h : Bld (ρ.t 72) (ρ.t 5) b p v (Lib.byteCells l) w) (h0 : l ≠ []) :
    Calls P (ρ.f 169) #[.pointer (some ⟨b, 0, none⟩)] w fun e w' => e = .returned (.string ⟨l.toArray⟩) ∧ ReadB v w w' := by
  have hbk := h.here
  have hown := h.owns
  have hl0 : l.length ≠ 0 := by simpa using h0
  rw [Lib.byteCells_length] at hown
  obtain ⟨g, cap, cur, rfl, hbg, hg, hnc, hcm, hcs, htake⟩ : ∃ g cap cur, v = .slice (some ⟨g, 0, none⟩) l.length cap ∧ 0 ≤ g ∧ w.heap[g]? = some (.cells cur (ρ.t 5) (0, 0)) ∧ l.length ≤ cap ∧ cap ≤ maxLen ∧ cur.size = cap * 1 ∧ cur.toList.take (l.length * 1) = Lib.byteCells l := by
    rcases hown.2 with ⟨_, hz⟩ | ⟨g, cap, cur, hv, r⟩
    · exact absurd hz hl0
    · exact ⟨g, cap, cur, hv, r⟩
  have c1 : w.drew.cell? ⟨b, 1, none⟩ = some (.slice (some ⟨g, 0, none⟩) l.length cap) := by
    have : w.drew.heap[b]? = some (.cells #[p, .slice (some ⟨g, 0, none⟩) l.length cap] (ρ.t 72) (0, 0)) := hbk
    rw [Lib.cell_of_heap this]; rfl
  have hSD : (Builtin.unsafeSliceData_ #[(ρ.t 37)] (ρ.t 127) #[.slice (some ⟨g, 0, none⟩) l.length cap]).run P w.drew = .ok (.pointer (some ⟨g, 0, none⟩)) w.drew :=
    Lib.run_unsafeSliceData_row _ _ _ _ _ _ (by omega)
  have hUS : (Builtin.unsafeString_ #[(ρ.t 127), (ρ.t 3)] (ρ.t 9) #[.pointer (some ⟨g, 0, none⟩), .int .i64 l.length]).run P w.drew = .ok (.string ⟨l.toArray⟩) (w.drew.freeze ⟨g, 0, none⟩ l.length) := by
    refine Lib.run_unsafeString_row w.drew (ρ.t 127) (ρ.t 3) (ρ.t 9) (ρ.t 5) L.t127 X.cellsByte g cur.size (by have hg' : w.drew.heap[g]? = some (.cells cur (ρ.t 5) (0, 0)) := hg; simp [World.shape?, hg']) l h0 (by omega) (by unfold maxLen at hcm; omega) ?_
    intro j x hx
    have := hown.cells (g := g) rfl j (.int .u8 x.toNat) (by simp [Lib.byteCells, hx])
    exact this
  have hread : ReadB (.slice (some ⟨g, 0, none⟩) l.length cap) w (w.drew.freeze ⟨g, 0, none⟩ l.length) := by
    have hb := Lib.below_freeze (Below.drew (Below.refl 0 w)) (p := ⟨g, 0, none⟩) (Nat.zero_le _) l.length
    refine ⟨hb.os, hb.tape, hb.output, hb.size, fun k hk hn => ?_⟩
    · have hkg : g ≠ k := fun e => hn (by rw [← e]; rfl)
      show (w.drew.freeze ⟨g, 0, none⟩ l.length).heap[k]? = w.drew.heap[k]?
      unfold World.freeze
      split
      · rfl
      · simp only [Array.getElem?_modify]
        rw [if_neg hkg]
  have mixed := L.mixed
  have t72 := L.t72; have a72 := L.a72; have z72 := L.z72; have v72 := L.v72; have u72 := run_underlying L.t72
  have t70 := L.t70; have a70 := L.a70; have z70 := L.z70; have v70 := L.v70; have u70 := run_underlying L.t70
  have t37 := L.t37; have a37 := L.a37; have z37 := L.z37; have v37 := L.v37; have u37 := run_underlying L.t37
  have t127 := L.t127; have a127 := L.a127; have z127 := L.z127; have v127 := L.v127; have u127 := run_underlying L.t127
  have t3 := L.t3; have a3 := L.a3; have z3 := L.z3; have v3 := L.v3; have u3 := run_underlying L.t3
  have t9 := L.t9; have a9 := L.a9; have z9 := L.z9; have v9 := L.v9; have u9 := run_underlying L.t9
  have t5 := X.t5; have a5 := X.a5; have z5 := X.z5; have v5 := X.v5; have u5 := run_underlying X.t5
  go_enter L.f169, Body.n169_ntmps ρ
  go_wp2
  go_region_o
  all_goals (go_wp2; go_ret; exact ⟨rfl, hread⟩)

theorem string_x (L : Lays.n169 P ρ) (X : Builder.Extra P ρ) {b : Nat} {p v : Value} {l : List UInt8} {w : World} (h : Bld (ρ.t 72) (ρ.t 5) b p v (Lib.byteCells l) w) :
    Calls P (ρ.f 169) #[.pointer (some ⟨b, 0, none⟩)] w fun e w' => e = .returned (.string ⟨l.toArray⟩) ∧ ReadB v w w' := by
  cases l with
  | cons x r => exact string_one L X h (by simp)
  | nil =>
    have hbk := h.here
    rcases h.owns.2 with ⟨rfl, _⟩ | ⟨g, cap, cur, rfl, hbg, hg, _, _, _, _⟩
    · exact (Any.Builder_String_nil L X w.heap.size b p w hbk).mono fun e w' ⟨he, hb⟩ => ⟨he, .of_below hb⟩
    · by_cases hc0 : cap = 0
      · subst hc0
        exact (Any.Builder_String_noroom L X w.heap.size b g p cur w (Nat.le_refl _) hbk hg).mono fun e w' ⟨he, hb⟩ => ⟨he, .of_below hb⟩
      · exact (Any.Builder_String_room L X w.heap.size b g cap p w hc0 hbk).mono fun e w' ⟨he, hb⟩ => ⟨he, .of_below hb⟩

end

section
variable {E : Env} {f : FuncId}

/-- A call whose first argument is a builder. -/
theorem bld_arg {γ : List Gh} {Φ : Nat → Nat → Prop} {w : World} {s : List UInt8} (hI : OInv E γ [.bld s] Φ w) {c : Value} (h : ARel γ [.bld s] Φ w c (.ref 0 0)) :
    ∃ g b p v, γ = [g] ∧ c = .pointer (some ⟨b, 0, none⟩) ∧ g.v = c ∧ g.own = b :: v.ownBlock.toList ∧ Bld (E.bT.getD 0) E.be b p v (Lib.byteCells s) w ∧ (∀ k, ¬ Φ b k) ∧ ∀ c, v.ownBlock = some c → ∀ k, ¬ Φ c k := by
  have hl : γ.length = 1 := hI.len
  match γ, hl with
  | [g], _ =>
    obtain ⟨b, p, v, hv, hown, hp, hheap, howns, hne, h1, h2⟩ := hI.obj 0 _ g rfl rfl
    cases h with
    | ref b' l off hg =>
      have : g.v = .pointer (some ⟨b', 0, none⟩) := by simpa [gv] using hg
      rw [hv] at this
      injection this with this
      injection this with this
      injection this with this
      subst this
      exact ⟨g, b, p, v, rfl, rfl, hv, hown, ⟨hp, hheap, by rw [Lib.byteCells_length]; exact howns, hne⟩, h1, h2⟩

theorem Good.writeString (hc : ∀ (b : Nat) (p v : Value) (bs : List Value) (w : World) (s : ByteArray), Bld (E.bT.getD 0) E.be b p v bs w → bs.length + s.size ≤ 140737488355328 →
      Calls E.P f #[.pointer (some ⟨b, 0, none⟩), .string s] w fun e w' => e = .returned (.tuple #[.int .i64 s.size, .nilIface]) ∧ Wrote (E.bT.getD 0) E.be b v (bs ++ Lib.strCells s) w w')
    (b s : List UInt8) (h : b.length + s.length ≤ 140737488355328) : Good E f [.ref 0 0, .pv (.str s)] [.bld b] [.pv (.int .i64 s.length), .pv .nil] [.bld (b ++ s)] := by
  intro w Φ γ cargs hI hl hr
  match cargs, hl with
  | [c0, c1], _ =>
    obtain ⟨g, blk, p, v, rfl, rfl, hgv, hgo, hB, hp1, hp2⟩ := bld_arg hI (hr 0 c0 _ rfl rfl)
    have h1 := rep_str (arel_pv (hr 1 c1 _ rfl rfl))
    subst h1
    have hsz : (⟨⟨s⟩⟩ : ByteArray).size = s.length := rfl
    refine (hc blk p v _ w ⟨⟨s⟩⟩ hB (by rw [Lib.byteCells_length, hsz]; exact h)).mono fun e w' ⟨he, hW⟩ => ?_
    obtain ⟨v', hnow, hown', hne', hblk⟩ := hW.now
    have hmem : ∀ k, k ∈ g.own ↔ k = blk ∨ v.ownBlock = some k := fun k => by rw [hgo]; simp
    have hkeep : ∀ k, k < w.heap.size → k ∉ g.own → w'.heap[k]? = w.heap[k]? := fun k hk hn => hW.old k hk (fun e => hn ((hmem k).2 (.inl e))) (fun e => hn ((hmem k).2 (.inr e)))
    have hphi : ∀ k, k ∈ g.own → ∀ j, ¬ Φ k j := fun k hk j => by
      rcases (hmem k).1 hk with rfl | h
      · exact hp1 j
      · exact hp2 k h j
    have hok := hI.setObj (o' := .bld (b ++ s)) (g' := ⟨g.v, blk :: v'.ownBlock.toList⟩) (l := 0) (g := g) (o := .bld b) rfl rfl hkeep hW.size hW.os hW.tape hW.output (fun _ _ h => h) (fun _ _ h _ _ => h) (fun k j h => Nat.lt_of_lt_of_le (hI.phi k j h) hW.size)
      (fun k j h hk => absurd h (hphi k hk j)) (fun k hk => by
        simp only [List.mem_cons, Option.mem_toList] at hk
        rcases hk with rfl | hk
        · exact ⟨.inl ((hmem k).2 (.inl rfl)), Nat.lt_of_lt_of_le hB.lt hW.size⟩
        · obtain ⟨h1, h2⟩ := hblk k hk
          exact ⟨h1.elim (fun h => .inl ((hmem k).2 (.inr h))) .inr, h2⟩) (.inl rfl) (fun e sz n h => by cases h)
      (fun hE => by
        refine ⟨blk, .pointer (some ⟨blk, 0, none⟩), v', hgv, rfl, .inr rfl, hnow, ?_, hne', hp1, fun k hk j hj => ?_⟩
        · have e1 : (b ++ s).map (fun u => Value.int .u8 u.toNat) = Lib.byteCells b ++ Lib.strCells ⟨⟨s⟩⟩ := by
            rw [Lib.strCells_eq, ← Lib.byteCells_append]
            rfl
          have e2 : (Lib.byteCells b ++ Lib.strCells ⟨⟨s⟩⟩).length = (b ++ s).length := by rw [← e1, List.length_map]
          rw [e1, ← e2]
          exact hown'
        · rcases (hblk k hk).1 with h1 | h1
          · exact hp2 k h1 j hj
          · have := hI.phi k j hj
            omega)
    refine ⟨[.int .i64 s.length, .nilIface], _, Φ, he, hok, rfl, fun i u r hu hr => ?_⟩
    match i, hu, hr with
    | 0, hu, hr => cases hu; cases hr; exact .pv (.int _ _)
    | 1, hu, hr => cases hu; cases hr; exact .pv .nil

theorem Good.string (hc : ∀ (b : Nat) (p v : Value) (l : List UInt8) (w : World), Bld (E.bT.getD 0) E.be b p v (Lib.byteCells l) w →
      Calls E.P f #[.pointer (some ⟨b, 0, none⟩)] w fun e w' => e = .returned (.string ⟨l.toArray⟩) ∧ ReadB v w w')
    (b : List UInt8) : Good E f [.ref 0 0] [.bld b] [.pv (.str b)] [.gone] := by
  intro w Φ γ cargs hI hl hr
  match cargs, hl with
  | [c0], _ =>
    obtain ⟨g, blk, p, v, rfl, rfl, hgv, hgo, hB, hp1, hp2⟩ := bld_arg hI (hr 0 c0 _ rfl rfl)
    refine (hc blk p v b w hB).mono fun e w' ⟨he, hW⟩ => ?_
    have hmem : ∀ k, k ∈ g.own ↔ k = blk ∨ v.ownBlock = some k := fun k => by rw [hgo]; simp
    have hphi : ∀ k, k ∈ g.own → ∀ j, ¬ Φ k j := fun k hk j => by
      rcases (hmem k).1 hk with rfl | h
      · exact hp1 j
      · exact hp2 k h j
    have hok := hI.setObj (o' := .gone) (g' := g) (l := 0) (g := g) (o := .bld b) rfl rfl (fun k hk hn => hW.old k hk (fun e => hn ((hmem k).2 (.inr e)))) hW.size hW.os hW.tape hW.output (fun _ _ h => h) (fun _ _ h _ _ => h) (fun k j h => Nat.lt_of_lt_of_le (hI.phi k j h) hW.size)
      (fun k j h hk => absurd h (hphi k hk j)) (fun k hk => ⟨.inl hk, Nat.lt_of_lt_of_le (hI.own 0 g rfl k hk).2 hW.size⟩) (.inl rfl) (fun e sz n h => by cases h) (fun _ => trivial)
    refine ⟨[.string ⟨⟨b⟩⟩], _, Φ, he, hok, rfl, fun i u r hu hr => ?_⟩
    match i, hu, hr with
    | 0, hu, hr => cases hu; cases hr; exact .pv (.str _)

theorem Good.len (hc : ∀ (B b : Nat) (l : List UInt8) (w : World), Lib.IsBuilder (E.bT.getD 0) E.be B b (Lib.byteCells l) w →
      Calls E.P f #[.pointer (some ⟨b, 0, none⟩)] w fun e w' => e = .returned (.int .i64 (Lib.byteCells l).length) ∧ w' = w)
    (b : List UInt8) : Good E f [.ref 0 0] [.bld b] [.pv (.int .i64 b.length)] [.bld b] := by
  intro w Φ γ cargs hI hl hr
  match cargs, hl with
  | [c0], _ =>
    obtain ⟨g, blk, p, v, rfl, rfl, hgv, hgo, hB, hp1, hp2⟩ := bld_arg hI (hr 0 c0 _ rfl rfl)
    have hat : Lib.IsBuilder (E.bT.getD 0) E.be 0 blk (Lib.byteCells b) w := by
      rcases hB.addr with h | h
      · exact .inl (by rw [← h]; exact ⟨Nat.zero_le _, v, hB.here, hB.owns, hB.apart⟩)
      · exact .inr (by rw [← h]; exact ⟨Nat.zero_le _, v, hB.here, hB.owns, hB.apart⟩)
    refine (hc 0 blk b w hat).mono fun e w' ⟨he, hW⟩ => ?_
    subst hW
    rw [Lib.byteCells_length] at he
    refine ⟨[.int .i64 b.length], _, Φ, he, .refl hI, rfl, fun i u r hu hr => ?_⟩
    match i, hu, hr with
    | 0, hu, hr => cases hu; cases hr; exact .pv (.int _ _)

end
end Go.Abs
