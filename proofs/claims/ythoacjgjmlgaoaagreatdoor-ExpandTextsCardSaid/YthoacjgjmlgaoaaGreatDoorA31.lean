/- The abstract machine, part 31: more rules for the printed proofs; what the library's functions compute. -/
import Derived.Test.YthoacjgjmlgaoaaGreatDoorA30
namespace Go.Abs
open Go.RowKit

section
variable {E : Env} {k : Nat}

theorem Weak.of_eq {σ σ' σ'' : St} (h : Weak E k σ σ') (e : σ' = σ'') : Weak E k σ σ'' := e ▸ h

end

theorem ecall_eq {O : Orc} {H : List AObj} {f : FuncId} {args : List AV} {sel : List Nat} {as : List AV} {Hs : List AObj} {rs : List AV} {H' : List AObj} {r : AV} {Hn : List AObj}
    (h1 : dedup (locsOf H args ++ innerLocs H (locsOf H args)) = sel) (h2 : selObjs H (idx sel) sel = some Hs) (h3 : renArgs H (idx sel) args = some as) (h4 : O.C f as Hs = some (rs, H')) (h5 : decide (sel.length ≤ H'.length) = true)
    (h6 : retAV (rs.map (AV.mapL (backN H.length sel))) = r) (h7 : backObjs H sel H' = Hn) : ecall O H f args = some (r, Hn) := by
  unfold ecall
  simp only [h1, h2, h3, h4]
  rw [if_pos (of_decide_eq_true h5), h6, h7]

theorem str_all (xs : List (List UInt8)) : ((xs.map PV.str).all fun z => z.cells.length == 1) = true := by simp [PV.cells]
theorem int_all (k : IntKind) (xs : List Int) : ((xs.map (PV.int k)).all fun z => z.cells.length == 1) = true := by simp [PV.cells]
theorem bool_all (xs : List Bool) : ((xs.map PV.bool).all fun z => z.cells.length == 1) = true := by simp [PV.cells]
theorem mp_nil : mp [] = [] := rfl
theorem cells_agg (cs : List PV) : (PV.agg cs).cells = cs := rfl
theorem cells_str (s : List UInt8) : (PV.str s).cells = [.str s] := rfl
theorem cells_int (k : IntKind) (n : Int) : (PV.int k n).cells = [.int k n] := rfl
theorem cells_bool (b : Bool) : (PV.bool b).cells = [.bool b] := rfl
theorem cells_slice (xs : List PV) : (PV.slice xs).cells = [.slice xs] := rfl

theorem mp_inj {m m' : List (List UInt8 × Int)} (h : mp m = mp m') : m = m' := by
  have h1 := mp?_mp m
  rw [h, mp?_mp] at h1
  exact (Option.some.inj h1).symm

end Go.Abs
