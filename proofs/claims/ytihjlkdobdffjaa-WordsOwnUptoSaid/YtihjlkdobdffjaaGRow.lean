/-
  A parameter whose cells are all plain (whole numbers, bools, strings, structs of these): what its cells are.
  Conditions: the type's cells are plain and lie one behind the other ('leaves').
-/
import Derived.Test.YtihjlkdobdffjaaProg
import Derived.ProofKit
import Derived.OpenShut
import Derived.Lib.SmallJoins
namespace Go.Proofs.YtihjlkdobdffjaaG
open Go.ChangeShapes Go.WideShapes Go.ChangeAt Go.RowKit

/-- The kinds of plain cells. -/
inductive Lk where
  | int (k : IntKind)
  | bool
  | str
/-- A cell of that kind. -/
def Lk.ok : Lk → Value → Prop
  | .int k, v => ∃ n, v = .int k n ∧ (Lit.int k n).wf = true
  | .bool, v => ∃ b, v = .bool b
  | .str, v => ∃ s : ByteArray, v = .string s ∧ s.size ≤ maxLen
def okAll : List Lk → List Value → Prop
  | [], [] => True
  | k :: ks, v :: vs => k.ok v ∧ okAll ks vs
  | [], _ :: _ => False
  | _ :: _, [] => False
theorem okAll_nil {vs : List Value} (h : okAll [] vs) : vs = [] := by
  cases vs with
  | nil => rfl
  | cons v vs => exact absurd h (by simp [okAll])
theorem okAll_cons {k : Lk} {ks : List Lk} {vs : List Value} (h : okAll (k :: ks) vs) : ∃ v r, vs = v :: r ∧ k.ok v ∧ okAll ks r := by
  cases vs with
  | nil => exact absurd h (by simp [okAll])
  | cons v r => exact ⟨v, r, rfl, h⟩
theorem okAll_append : ∀ {a b : List Lk} {u v : List Value}, okAll a u → okAll b v → okAll (a ++ b) (u ++ v)
  | [], b, u, v, h, k => by
    obtain rfl := okAll_nil h
    simpa using k
  | x :: a, b, u, v, h, k => by
    obtain ⟨y, r, rfl, h1, h2⟩ := okAll_cons h
    exact ⟨h1, okAll_append h2 k⟩
theorem okAll_length : ∀ {a : List Lk} {u : List Value}, okAll a u → u.length = a.length
  | [], u, h => by rw [okAll_nil h]; rfl
  | x :: a, u, h => by
    obtain ⟨y, r, rfl, _, h2⟩ := okAll_cons h
    simp [okAll_length h2]

/-- A struct's cells, field by field: each begins where the last one ended. -/
def leavesF (P : Program) (rec : TypeId → Option (List Lk)) : List Field → Nat → Option (List Lk)
  | [], _ => some []
  | f :: fs, off => if f.offset = off then (rec f.type).bind fun l => if P.cellsOf f.type = l.length then (leavesF P rec fs (off + l.length)).map (l ++ ·) else none else none
def leaves (P : Program) : Nat → TypeId → Option (List Lk)
  | 0, _ => none
  | n + 1, t => match P.underlying t with
    | some .bool => some [.bool]
    | some (.int k) => some [.int k]
    | some .string => some [.str]
    | some (.struct fs) => (leavesF P (leaves P n) fs.toList 0).bind fun l => if P.cellsOf t = l.length then some l else none
    | _ => none

section
variable {H : Type} {enc : TypeId × Value → H} {P : Program} {w : World} {base : Nat} {spare : Nat → Bool} {held : Bool}
theorem leavesF_ok {rec : TypeId → Option (List Lk)} {fuel : Nat} (hrec : ∀ t l cs x, rec t = some l → DataW.trod enc P w base spare held fuel t cs = some x → okAll l cs) :
    ∀ (fs : List Field) (off : Nat) (l : List Lk) (cs : List Value) (xs : List (DataW H × List MemPlace)), leavesF P rec fs off = some l → cs.length = off + l.length →
      fs.mapM (fun f => DataW.trod enc P w base spare held fuel f.type ((cs.drop f.offset).take (P.cellsOf f.type))) = some xs → okAll l (cs.drop off)
  | [], off, l, cs, xs, h, hl, _ => by
    simp only [leavesF, Option.some.injEq] at h
    subst h
    rw [List.drop_of_length_le (by simpa using Nat.le_of_eq hl)]
    trivial
  | f :: fs, off, l, cs, xs, h, hl, hx => by
    simp only [leavesF] at h
    split at h
    · rename_i ho
      obtain ⟨lf, h1, h2⟩ := Option.bind_eq_some_iff.1 h
      split at h2
      · rename_i hc
        obtain ⟨lr, h3, rfl⟩ := Option.map_eq_some_iff.1 h2
        simp only [List.mapM_cons, Option.bind_eq_bind, Option.bind_eq_some_iff] at hx
        obtain ⟨y, hy, ys, hys, _⟩ := hx
        rw [ho, hc] at hy
        have a := hrec _ _ _ _ h1 hy
        have b := leavesF_ok hrec fs (off + lf.length) lr cs ys h3 (by rw [hl, List.length_append, Nat.add_assoc]) hys
        have e : cs.drop off = (cs.drop off).take lf.length ++ cs.drop (off + lf.length) := by rw [← List.drop_drop, List.take_append_drop]
        rw [e]
        exact okAll_append a b
      · exact absurd h2 (by simp)
    · exact absurd h (by simp)
theorem leaves_ok : ∀ (n : Nat) (fuel : Nat) (t : TypeId) (l : List Lk) (cs : List Value) (x : DataW H × List MemPlace), leaves P n t = some l → DataW.trod enc P w base spare held fuel t cs = some x → okAll l cs
  | 0, _, _, _, _, _, h, _ => by simp [leaves] at h
  | n + 1, 0, _, _, _, _, _, hx => by simp [DataW.trod] at hx
  | n + 1, fuel + 1, t, l, cs, x, h, hx => by
    simp only [leaves] at h
    split at h
    · rename_i hu
      obtain rfl := Option.some.inj h
      obtain ⟨b, rfl, _⟩ := DataW.trod_bool hu hx
      exact ⟨⟨b, rfl⟩, trivial⟩
    · rename_i k hu
      obtain rfl := Option.some.inj h
      obtain ⟨m, rfl, _, hw⟩ := DataW.trod_int hu hx
      exact ⟨⟨m, rfl, hw⟩, trivial⟩
    · rename_i hu
      obtain rfl := Option.some.inj h
      obtain ⟨s, rfl, _, hs⟩ := DataW.trod_string hu hx
      exact ⟨⟨s, rfl, hs⟩, trivial⟩
    · rename_i fs hu
      obtain ⟨l', h1, h2⟩ := Option.bind_eq_some_iff.1 h
      split at h2
      · rename_i hc
        obtain rfl := Option.some.inj h2
        simp only [DataW.trod, hu] at hx
        split at hx
        · rename_i hlen
          obtain ⟨xs, hxs, _⟩ := Option.map_eq_some_iff.1 hx
          have := leavesF_ok (fun t l cs x => leaves_ok n fuel t l cs x) fs.toList 0 l' cs xs h1 (by rw [hlen, hc, Nat.zero_add]) hxs
          simpa using this
        · exact absurd hx (by simp)
      · exact absurd h2 (by simp)
    · exact absurd h (by simp)
/-- A struct by value, all of whose cells are plain. -/
theorem open_flat {r : Reach} {b0 : Nat} {t : TypeId} {fs : Array Field} {v : Value} {d : DataW H} {p : List MemPlace} {l : List Lk} (hs : P.underlying t = some (.struct fs)) (hl : leaves P 9 t = some l)
    (hv : Value.okWide P w r b0 t v) (h : DataW.Trod enc P w base spare held t v d p) : ∃ cs : List Value, v = .agg cs.toArray ∧ okAll l cs := by
  obtain ⟨cs, rfl, hsz⟩ := okWide_struct hs hv
  obtain ⟨fuel, hf⟩ := h
  exact ⟨cs.toList, by simp, by simpa [Value.cells] using leaves_ok 9 fuel t l _ _ hl hf⟩
end
end Go.Proofs.YtihjlkdobdffjaaG
