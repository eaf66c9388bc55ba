import Derived.Test.YtkiajanddmgmnaaGreatDoorA33
/- The abstract machine, part 41: (*strings.Builder).WriteByte, with a frame that names every block, and as a function of objects. -/
namespace Go.Abs
open Go.RowKit Go.Shelf Go.Proofs

section
variable {P : Program} {w : World}

theorem wpList_append_one {ops : Array Oper} {rest : List Oper} {o : Oper} {a : Act} {Q : Exit → Act → World → Prop} (hgd : o.guard = none) (sl x : Operand) (t : TypeId)
    (ho : o.op = .call { callee := .builtin .append, args := #[sl, x], argTypes := #[t, t] }) (e : TypeId) (i : TypeInfo) (z : Value) (ht : P.underlying t = some (.slice e)) (hi : P.info? e = some i) (hz : i.zero = some z) (hzs : z.cells.size = i.size)
    (hsize : i.size = 1) (hby : i.bytes = 1) (v : Value) (n : Nat) (xs : List Value) (hs : a.eval sl = v) (hown : w.ownsRow 0 e 1 v n xs) (u y : Value) (hx : a.eval x = y) (hsrc : Src w 1 1 y [u])
    (h63 : n + 1 ≤ maxLen) (hbytes : n + 1 ≤ 140737488355328)
    (h : ∀ v' w', w'.ownsRow 0 e 1 v' (n + 1) (xs ++ [u]) → Grew w w' v v' → wpList P ops Q rest (a.put o.dst v') w') : wpList P ops Q (o :: rest) a w := by
  refine wpList_plain hgd fun K hK => ?_
  obtain ⟨v', w', hr, h2, h3, _⟩ := append_own (P := P) (w := w) t o.type e i z ht hi hz hzs v n xs (by rw [hsize]; exact hown) y 1 [u] (by rw [hsize]; exact hsrc) h63 (by rw [hby]; omega)
  rw [hsize] at h2
  unfold Oper.wp execOp
  simp only [ho, resolve, invoke, builtin, Sem.run_bind, Sem.run_pure, Result.andThen_ok, List.map_toArray, List.map_cons, List.map_nil, hs, hx, hr]
  exact hK _ _ (h v' w' h2 h3)

end

section
variable {P : Program} {ρ : Ren}

set_option maxHeartbeats 2000000 in
set_option maxRecDepth 100000 in
theorem writeByte_x (L : Lays.n167 P ρ) (X : Builder.Extra P ρ) {b : Nat} {p v : Value} {bs : List Value} {w : World} (c : Int) (h : Bld (ρ.t 72) (ρ.t 5) b p v bs w) (hlen : bs.length + 1 ≤ 140737488355328) :
    Calls P (ρ.f 167) #[.pointer (some ⟨b, 0, none⟩), .int .u8 c] w fun e w' => e = .returned .nilIface ∧ Wrote (ρ.t 72) (ρ.t 5) b v (bs ++ [.int .u8 c]) w w' := by
  obtain ⟨i0, hi, hz0, hz1, hz2⟩ := info_parts X.infoByte
  have mixed := L.mixed
  have t72 := L.t72; have a72 := L.a72; have z72 := L.z72; have v72 := L.v72; have u72 := run_underlying L.t72
  have t70 := L.t70; have a70 := L.a70; have z70 := L.z70; have v70 := L.v70; have u70 := run_underlying L.t70
  have t5 := L.t5; have a5 := L.a5; have z5 := L.z5; have v5 := L.v5; have u5 := run_underlying L.t5
  have t37 := L.t37; have a37 := L.a37; have z37 := L.z37; have v37 := L.v37; have u37 := run_underlying L.t37
  have t9 := L.t9; have a9 := L.a9; have z9 := L.z9; have v9 := L.v9; have u9 := run_underlying L.t9
  have t4 := L.t4; have a4 := L.a4; have z4 := L.z4; have v4 := L.v4; have u4 := run_underlying L.t4
  have t164 := L.t164; have a164 := L.a164; have z164 := L.z164; have v164 := L.v164; have u164 := run_underlying L.t164
  have e240 : ∀ args w, (callFunc (ρ.f 240) args).run P w = .ok (.enter (ρ.f 240) args) w := enters_of L.f240 (by kernel_rfl) rfl
  go_enter L.f167, Body.n167_ntmps ρ
  go_wp2_with (go_at_fn (ρ.f 240); refine (copyCheck_x { L with } X.toX72 h).mono ?_)
  rintro e w1 ⟨rfl, h1, ho1, ht1, hu1, hs1, hk1⟩
  have hle : w.heap.size ≤ w1.heap.size := by omega
  have hge : w1.heap.size ≤ w.heap.size := by omega
  clear hs1
  have hbk := h1.here
  have hown := h1.owns
  have hne := h1.apart
  have hlt : b < w1.heap.size := h1.lt
  have c0 : w1.cell? ⟨b, 0, none⟩ = some (.pointer (some ⟨b, 0, none⟩)) := by rw [Lib.cell_of_heap hbk]; rfl
  have c1 : w1.cell? ⟨b, 1, none⟩ = some v := by rw [Lib.cell_of_heap hbk]; rfl
  have hob : ∀ k, v.ownBlock = some k → k < w1.heap.size := fun k hk => by
    rcases hown.2 with ⟨hv, _⟩ | ⟨g, cap, cur, hv, _, hg, _⟩
    · rw [hv] at hk
      cases hk
    · rw [hv] at hk
      injection hk with hk
      subst hk
      exact (Array.getElem?_eq_some_iff.1 hg).1
  go_wp2_with (at_builtin; refine wpList_append_one rfl _ _ (ρ.t 37) rfl (ρ.t 5) i0 (.int .u8 0) L.t37 hi hz0 (by rw [hz1]; rfl) hz1 hz2 v bs.length bs rfl ?c1 (.int .u8 c) (.slice (some ⟨w1.heap.size, 0, none⟩) 1 1) rfl ?c2 ?c3 ?c4 ?_)
  case c1 => exact ownsRow_of_heap hown fun k hk => Lib.alloc_old w1 _ k (hob k hk)
  case c2 =>
    refine ⟨rfl, fun u hu => by simp at hu; subst hu; rfl, .inr ⟨⟨w1.heap.size, 0, none⟩, 1, rfl, fun j u hj => ?_⟩⟩
    match j, hj with
    | 0, hj => simp at hj; subst hj; simp [Addr.add]
  case c3 => unfold maxLen; omega
  case c4 => omega
  intro v' w2 hown' hgrow
  have hsz1 : ∀ o, (w1.alloc o).heap.size = w1.heap.size + 1 := fun o => by simp
  have hb2 : w2.heap[b]? = some (.cells #[.pointer (some ⟨b, 0, none⟩), v] (ρ.t 72) (0, 0)) := by
    rw [hgrow.old (by rw [hsz1]; omega) hne, Lib.alloc_old w1 _ b hlt]
    exact hbk
  have d0 : w2.cell? ⟨b, 0, none⟩ = some (.pointer (some ⟨b, 0, none⟩)) := by rw [Lib.cell_of_heap hb2]; rfl
  have d1 : w2.cell? ⟨b, 1, none⟩ = some v := by rw [Lib.cell_of_heap hb2]; rfl
  have f1 : w2.frozen? ⟨b, 1, none⟩ = false := Lib.frozen_of_heap hb2 1
  obtain ⟨ao, n', cap, rfl⟩ : ∃ ao n' cap, v' = .slice ao n' cap := by
    rcases hown'.2 with ⟨hv, _⟩ | ⟨g, cap, cur, hv, _⟩
    · exact ⟨_, _, _, hv⟩
    · exact ⟨_, _, _, hv⟩
  have hne' := Lib.ownBlock_ne hown' hb2 X.neB5
  have hsz := hgrow.size
  rw [hsz1] at hsz
  go_wp2
  go_ret
  refine ⟨rfl, hgrow.os.trans ho1, hgrow.tape.trans ht1, hgrow.output.trans hu1, ?_, fun k hk hkb hkv => ?_, ?_⟩
  · show w.heap.size ≤ (w2.setCell ⟨b, 1, none⟩ _).heap.size
    rw [setCell_size]
    omega
  · show (w2.setCell ⟨b, 1, none⟩ _).heap[k]? = _
    rw [setCell_other _ _ _ _ _ hkb, hgrow.old (by rw [hsz1]; omega) hkv, Lib.alloc_old w1 _ k (by omega), hk1 k hkb]
  · refine ⟨_, setCell_1 hb2, ?_, hne', fun k hk => ⟨?_, ?_⟩⟩
    · have : (bs ++ [Value.int .u8 c]).length = bs.length + 1 := by simp
      rw [this]
      exact ownsRow_of_heap hown' fun k hk => setCell_other _ _ _ _ _ (fun e => hne' (by rw [hk, e]))
    · rcases hgrow.blk hk with h2 | h2
      · exact .inl h2
      · rw [hsz1] at h2
        exact .inr (by omega)
    · show k < (w2.setCell ⟨b, 1, none⟩ _).heap.size
      rw [setCell_size]
      rcases hown'.2 with ⟨hv, _⟩ | ⟨g, cap, cur, hv, _, hg, _⟩
      · rw [hv] at hk
        cases hk
      · rw [hv] at hk
        injection hk with hk
        subst hk
        exact (Array.getElem?_eq_some_iff.1 hg).1

end

section
variable {E : Env} {f : FuncId}

theorem Good.writeByte (hc : ∀ (b : Nat) (p v : Value) (bs : List Value) (w : World) (c : Int), Bld (E.bT.getD 0) E.be b p v bs w → bs.length + 1 ≤ 140737488355328 →
      Calls E.P f #[.pointer (some ⟨b, 0, none⟩), .int .u8 c] w fun e w' => e = .returned .nilIface ∧ Wrote (E.bT.getD 0) E.be b v (bs ++ [.int .u8 c]) w w')
    (b : List UInt8) (c : UInt8) (h : b.length + 1 ≤ 140737488355328) : Good E f [.ref 0 0, .pv (.int .u8 c.toNat)] [.bld b] [.pv .nil] [.bld (b ++ [c])] := by
  intro w Φ γ cargs hI hl hr
  match cargs, hl with
  | [c0, c1], _ =>
    obtain ⟨g, blk, p, v, rfl, rfl, hgv, hgo, hB, hp1, hp2⟩ := bld_arg hI (hr 0 c0 _ rfl rfl)
    have h1 := rep_int (arel_pv (hr 1 c1 _ rfl rfl))
    subst h1
    refine (hc blk p v _ w c.toNat hB (by rw [Lib.byteCells_length]; exact h)).mono fun e w' ⟨he, hW⟩ => ?_
    obtain ⟨v', hnow, hown', hne', hblk⟩ := hW.now
    have hmem : ∀ k, k ∈ g.own ↔ k = blk ∨ v.ownBlock = some k := fun k => by rw [hgo]; simp
    have hkeep : ∀ k, k < w.heap.size → k ∉ g.own → w'.heap[k]? = w.heap[k]? := fun k hk hn => hW.old k hk (fun e => hn ((hmem k).2 (.inl e))) (fun e => hn ((hmem k).2 (.inr e)))
    have hphi : ∀ k, k ∈ g.own → ∀ j, ¬ Φ k j := fun k hk j => by
      rcases (hmem k).1 hk with rfl | h
      · exact hp1 j
      · exact hp2 k h j
    have hok := hI.setObj (o' := .bld (b ++ [c])) (g' := ⟨g.v, blk :: v'.ownBlock.toList⟩) (l := 0) (g := g) (o := .bld b) rfl rfl hkeep hW.size hW.os hW.tape hW.output (fun _ _ h => h) (fun _ _ h _ _ => h) (fun k j h => Nat.lt_of_lt_of_le (hI.phi k j h) hW.size)
      (fun k j h hk => absurd h (hphi k hk j)) (fun k hk => by
        simp only [List.mem_cons, Option.mem_toList] at hk
        rcases hk with rfl | hk
        · exact ⟨.inl ((hmem k).2 (.inl rfl)), Nat.lt_of_lt_of_le hB.lt hW.size⟩
        · obtain ⟨h1, h2⟩ := hblk k hk
          exact ⟨h1.elim (fun h => .inl ((hmem k).2 (.inr h))) .inr, h2⟩) (.inl rfl) (fun e sz n h => by cases h)
      (fun hE => by
        refine ⟨blk, .pointer (some ⟨blk, 0, none⟩), v', hgv, rfl, .inr rfl, hnow, ?_, hne', hp1, fun k hk j hj => ?_⟩
        · have e1 : (b ++ [c]).map (fun u => Value.int .u8 u.toNat) = Lib.byteCells b ++ [.int .u8 c.toNat] := by
            rw [List.map_append]
            rfl
          have e2 : (Lib.byteCells b ++ [Value.int .u8 c.toNat]).length = (b ++ [c]).length := by rw [← e1, List.length_map]
          rw [e1, ← e2]
          exact hown'
        · rcases (hblk k hk).1 with h | h
          · exact hp2 k h j hj
          · have := hI.phi k j hj
            omega)
    exact ⟨[.nilIface], _, _, he, hok, rfl, fun i u a hu ha => by
      match i, hu, ha with
      | 0, hu, ha => cases hu; cases ha; exact .pv .nil⟩

end
end Go.Abs
