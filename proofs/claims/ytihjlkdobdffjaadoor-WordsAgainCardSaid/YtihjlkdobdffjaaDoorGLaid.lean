/-
  What a listed package-level variable of plain cells holds, cell by cell, out of the row's list.
  Conditions: the variable's type is made of whole numbers, bools and strings in structs and arrays, one behind the other ('plainT').
-/
import Derived.Test.YtihjlkdobdffjaaDoorGRow
import Derived.Lib.LaidTab
namespace Go.Proofs.YtihjlkdobdffjaaDoorG
open Go.ChangeShapes Go.WideShapes Go.ChangeAt Go.RowKit

mutual
/-- A datum's cells, one behind the other. -/
def flatD {H : Type} : DataW H → List Value
  | .lit (.int k n) => [.int k n]
  | .lit (.bool b) => [.bool b]
  | .lit (.string bs) => [.string ⟨bs.toArray⟩]
  | .agg ps => flatDs ps
  | _ => []
def flatDs {H : Type} : List (DataW H) → List Value
  | [] => []
  | d :: r => flatD d ++ flatDs r
end

def plainF (P : Program) (rec : TypeId → Option Nat) : List Field → Nat → Option Nat
  | [], _ => some 0
  | f :: fs, off => if f.offset = off then (rec f.type).bind fun c => if P.cellsOf f.type = c then (plainF P rec fs (off + c)).map (c + ·) else none else none
def plainT (P : Program) : Nat → TypeId → Option Nat
  | 0, _ => none
  | n + 1, t => match P.underlying t with
    | some .bool => some 1
    | some (.int _) => some 1
    | some .string => some 1
    | some (.array m e) => (plainT P n e).bind fun c => if P.cellsOf e = c then (if P.cellsOf t = m * c then some (m * c) else none) else none
    | some (.struct fs) => (plainF P (plainT P n) fs.toList 0).bind fun c => if P.cellsOf t = c then some c else none
    | _ => none

section
variable {H : Type} {enc : TypeId × Value → H} {P : Program} {w : World} {base : Nat} {spare : Nat → Bool} {held : Bool}
theorem chunks_flat {c : Nat} : ∀ (ys : List (DataW H)) (cs : List Value), cs.length = ys.length * c → (∀ i y, ys[i]? = some y → (cs.drop (i * c)).take c = flatD y) → cs = flatDs ys
  | [], cs, hl, _ => by
    have : cs.length = 0 := by simpa using hl
    simp [flatDs, List.eq_nil_of_length_eq_zero this]
  | y :: r, cs, hl, h => by
    have h0 := h 0 y rfl
    rw [Nat.zero_mul, List.drop_zero] at h0
    have hr := chunks_flat (c := c) r (cs.drop c) (by rw [List.length_drop, hl, List.length_cons, Nat.succ_mul]; exact Nat.add_sub_cancel _ _) (fun i z hz => by
      have := h (i + 1) z (by simpa using hz)
      rw [List.drop_drop, show c + i * c = (i + 1) * c by rw [Nat.succ_mul, Nat.add_comm]]
      exact this)
    rw [flatDs, ← h0, ← hr, List.take_append_drop]
theorem plainF_flat {rec : TypeId → Option Nat} {fuel : Nat} (hrec : ∀ t m cs x, rec t = some m → DataW.trod enc P w base spare held fuel t cs = some x → cs = flatD x.1 ∧ cs.length = m) :
    ∀ (fs : List Field) (off c : Nat) (cs : List Value) (xs : List (DataW H × List MemPlace)), plainF P rec fs off = some c → cs.length = off + c →
      fs.mapM (fun f => DataW.trod enc P w base spare held fuel f.type ((cs.drop f.offset).take (P.cellsOf f.type))) = some xs → cs.drop off = flatDs (xs.map (·.1))
  | [], off, c, cs, xs, h, hl, hx => by
    simp only [plainF, Option.some.injEq] at h
    subst h
    simp only [List.mapM_nil, Option.pure_def, Option.some.injEq] at hx
    subst hx
    rw [List.drop_of_length_le (by simpa using Nat.le_of_eq hl)]
    rfl
  | f :: fs, off, c, cs, xs, h, hl, hx => by
    simp only [plainF] at h
    split at h
    · rename_i ho
      obtain ⟨cf, h1, h2⟩ := Option.bind_eq_some_iff.1 h
      split at h2
      · rename_i hc
        obtain ⟨cr, h3, rfl⟩ := Option.map_eq_some_iff.1 h2
        simp only [List.mapM_cons, Option.bind_eq_bind, Option.bind_eq_some_iff, Option.pure_def, Option.some.injEq] at hx
        obtain ⟨y, hy, ys, hys, rfl⟩ := hx
        rw [ho, hc] at hy
        obtain ⟨a1, _⟩ := hrec _ _ _ _ h1 hy
        have b := plainF_flat hrec fs (off + cf) cr cs ys h3 (by rw [hl, Nat.add_assoc]) hys
        have e : cs.drop off = (cs.drop off).take cf ++ cs.drop (off + cf) := by rw [← List.drop_drop, List.take_append_drop]
        rw [e, a1, b]
        rfl
      · exact absurd h2 (by simp)
    · exact absurd h (by simp)
theorem plain_flat : ∀ (n : Nat) (fuel : Nat) (t : TypeId) (m : Nat) (cs : List Value) (x : DataW H × List MemPlace), plainT P n t = some m → DataW.trod enc P w base spare held fuel t cs = some x → cs = flatD x.1 ∧ cs.length = m
  | 0, _, _, _, _, _, h, _ => by simp [plainT] at h
  | n + 1, 0, _, _, _, _, _, hx => by simp [DataW.trod] at hx
  | n + 1, fuel + 1, t, m, cs, x, h, hx => by
    simp only [plainT] at h
    split at h
    · rename_i hu
      obtain rfl := Option.some.inj h
      obtain ⟨b, rfl, rfl⟩ := DataW.trod_bool hu hx
      exact ⟨rfl, rfl⟩
    · rename_i k hu
      obtain rfl := Option.some.inj h
      obtain ⟨v, rfl, rfl, hw⟩ := DataW.trod_int hu hx
      exact ⟨rfl, rfl⟩
    · rename_i hu
      obtain rfl := Option.some.inj h
      obtain ⟨s, rfl, rfl, hs⟩ := DataW.trod_string hu hx
      exact ⟨rfl, rfl⟩
    · rename_i k e hu
      obtain ⟨c, h1, h2⟩ := Option.bind_eq_some_iff.1 h
      split at h2
      · rename_i hc
        split at h2
        · rename_i ht
          obtain rfl := Option.some.inj h2
          obtain ⟨xs, q, hq, rfl, hl, hxl, hxs⟩ := DataW.trod_array hu hx
          obtain rfl : fuel = q := by omega
          refine ⟨?_, hl.trans ht⟩
          refine chunks_flat (c := c) (xs.map (·.1)) cs (by rw [hl, ht, List.length_map, hxl]) (fun i y hy => ?_)
          rw [List.getElem?_map] at hy
          obtain ⟨z, hz, rfl⟩ := Option.map_eq_some_iff.1 hy
          have hi : i < k := by rw [← hxl]; exact (List.getElem?_eq_some_iff.1 hz).1
          have := hxs i hi
          rw [hc, hz] at this
          exact (plain_flat n fuel e c _ _ h1 this).1
        · exact absurd h2 (by simp)
      · exact absurd h2 (by simp)
    · rename_i fs hu
      obtain ⟨c, h1, h2⟩ := Option.bind_eq_some_iff.1 h
      split at h2
      · rename_i hc
        obtain rfl := Option.some.inj h2
        simp only [DataW.trod, hu] at hx
        split at hx
        · rename_i hlen
          obtain ⟨xs, hxs, rfl⟩ := Option.map_eq_some_iff.1 hx
          have := plainF_flat (fun t m cs x => plain_flat n fuel t m cs x) fs.toList 0 c cs xs h1 (by rw [hlen, hc, Nat.zero_add]) hxs
          exact ⟨by rw [flatD]; simpa using this, hlen.trans hc⟩
        · exact absurd hx (by simp)
      · exact absurd h2 (by simp)
    · exact absurd h (by simp)
end
theorem laidVars_mem {P : Program} {w : World} {name : String} {d : DataW Unit} : ∀ {l : List (String × DataW Unit)} {ps : List MemPlace}, DataW.LaidVars P w l ps → (name, d) ∈ l →
    ∃ g t cs fuel p, P.globalNamed name = some g ∧ (P.globals[g]?).map (·.type) = some t ∧ w.var? P name = some cs ∧ DataW.trod (fun _ => ()) P w 0 (fun _ => true) false fuel t cs.toList = some (d, p)
  | [], _, _, hm => by cases hm
  | (n, e) :: r, ps, h, hm => by
    obtain ⟨g, t, cs, fuel, p, q, h1, h2, h3, h4, h5, _⟩ := h
    cases hm with
    | head => exact ⟨g, t, cs, fuel, p, h1, h2, h3, h4⟩
    | tail _ hm => exact laidVars_mem h5 hm
/-- The cells of a listed variable. -/
theorem laid_cells {P : Program} {w : World} {name : String} {d : DataW Unit} {l : List (String × DataW Unit)} {g m : Nat} {t : TypeId} (hg : P.globalNamed name = some g) (hty : (P.globals[g]?).map (·.type) = some t) (hp : plainT P 9 t = some m)
    (h : laidMet P l w) (hm : (name, d) ∈ l) (i : Nat) : w.cell? ⟨g, i, none⟩ = (flatD d)[i]? := by
  obtain ⟨ps, hv, _⟩ := h
  obtain ⟨g', t', cs, fuel, p, h1, h2, h3, h4⟩ := laidVars_mem hv hm
  obtain rfl := Option.some.inj (hg.symm.trans h1)
  obtain rfl := Option.some.inj (hty.symm.trans h2)
  obtain ⟨e, _⟩ := plain_flat 9 fuel t m _ _ hp h4
  rw [World.var?_cell hg h3 i, ← e, Array.getElem?_toList]
theorem map_at {A B : Type} (f : A → B) (l : List A) (d : A) (i : Nat) (h : i < l.length) : (l.map f)[i]? = some (f (l.getD i d)) := by
  rw [List.getElem?_map, List.getElem?_eq_getElem h, List.getD_eq_getElem?_getD, List.getElem?_eq_getElem h]
  rfl
end Go.Proofs.YtihjlkdobdffjaaDoorG
