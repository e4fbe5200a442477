/-
  The reference's search of its table.
  Conditions: none.
-/
import Derived.Test.YtjlbmdcljikojaaPureIsaRef1
import Derived.Test.YtjlbmdcljikojaaPureIsaBack4
set_option linter.unusedVariables false
set_option linter.unusedSimpArgs false
set_option autoImplicit false
set_option maxRecDepth 10000
namespace Go.Va
abbrev RowT := List Int × Int × ByteArray × Unit
def okR (r : RowT) : Bool := (okP r.2.2.1 && decide (0 < r.1.length)) && decide (r.1.length ≤ 60)
theorem listed_tot (l n : Int) : Tot (atlasref19_listed.f l n) := by
  unfold atlasref19_listed.f
  rw [rn_low, cond_false]; exact Tot.is
theorem Tot.bind {α β : Type} {r : Option α} {F : α → Option β} (h : Tot r) (f : ∀ v, Tot (F v)) : Tot (r.bind F) := by
  obtain ⟨v, rfl⟩ := h; exact f v
theorem Tot.elim {α β γ : Type} {F : α → Option γ} {G : β → Option γ} {r : α ⊕ β} (h1 : ∀ a, Tot (F a)) (h2 : ∀ b, Tot (G b)) : Tot (Sum.elim F G r) := by cases r; exact h1 _; exact h2 _
theorem has_tot (r : RowT) (h : okR r = true) (L : Int) : Tot (atlasref19_Has.f 64 ⟨r.1, r.2.1, r.2.2.1⟩ L) := by
  simp only [okR, Bool.and_eq_true] at h
  exact ⟨_, has_FV r.1 r.2.1 h.1.1 L⟩
theorem any15_tot (r : RowT) (h : okR r = true) (j : T26) : Tot (atlasref19_any15.f 64 ⟨r.1, r.2.1, r.2.2.1⟩ j) := by
  unfold atlasref19_any15.f
  repeat' first
    | exact Tot.is
    | exact has_tot r h _
    | (with_reducible refine Tot.bif (fun _ => ?_) (fun _ => ?_))
    | (with_reducible refine Tot.bind ?_ (fun _ => ?_))
theorem atlasref19_may_q3_tot (x : ((List Int) × Int × ByteArray × Int × Int × Bool × Int × Int × Int × Int × Int × Int × Int × Int × Int × Bool × Bool × Bool × Int × Int × Int × Int × Int)) (h : okR (x.1, x.2.1, x.2.2.1, ()) = true) : Tot (atlasref19_may.q3.l 64 x) := by
  unfold atlasref19_may.q3.l
  repeat' first
    | with_reducible exact Tot.is
    | with_reducible exact listed_tot _ _
    | (with_reducible refine Tot.elim (fun _ => ?_) (fun _ => ?_))
    | (with_reducible refine Tot.bif (fun _ => ?_) (fun _ => ?_))
    | (with_reducible refine Tot.bind ?_ (fun _ => ?_))
    | (show Tot (atlasref19_any15.f 64 ⟨_, _, _⟩ _); exact any15_tot (_, _, _, ()) (by assumption) _)
theorem atlasref19_may_q5_tot (x : (Int × Int × Bool × Int × Int × Int × Int × Int × Int × Int × Int × Int × Bool × Bool × Bool × Int × Int × Int × Int × Int)) : Tot (atlasref19_may.q5.l 64 x) := by
  unfold atlasref19_may.q5.l
  repeat' first
    | with_reducible exact Tot.is
    | with_reducible exact listed_tot _ _
    | with_reducible exact atlasref19_may_q3_tot _ (by assumption)
    | (with_reducible refine Tot.elim (fun _ => ?_) (fun _ => ?_))
    | (with_reducible refine Tot.bif (fun _ => ?_) (fun _ => ?_))
    | (with_reducible refine Tot.bind ?_ (fun _ => ?_))
    | (show Tot (atlasref19_any15.f 64 ⟨_, _, _⟩ _); exact any15_tot (_, _, _, ()) (by assumption) _)
theorem atlasref19_may_q7_tot (x : (Bool × (List Int) × Int × ByteArray × Int × Int × Bool × Int × Int × Int × Int × Int × Int × Int × Int × Int × Bool × Bool × Bool × Int × Int × Int × Int × Int)) (h : okR (x.2.1, x.2.2.1, x.2.2.2.1, ()) = true) : Tot (atlasref19_may.q7.l 64 x) := by
  unfold atlasref19_may.q7.l
  repeat' first
    | with_reducible exact Tot.is
    | with_reducible exact listed_tot _ _
    | with_reducible exact atlasref19_may_q3_tot _ (by assumption)
    | with_reducible exact atlasref19_may_q5_tot _ 
    | (with_reducible refine Tot.elim (fun _ => ?_) (fun _ => ?_))
    | (with_reducible refine Tot.bif (fun _ => ?_) (fun _ => ?_))
    | (with_reducible refine Tot.bind ?_ (fun _ => ?_))
    | (show Tot (atlasref19_any15.f 64 ⟨_, _, _⟩ _); exact any15_tot (_, _, _, ()) (by assumption) _)
theorem atlasref19_may_q6_tot (x : (Bool × (List Int) × Int × ByteArray × Int × Int × Bool × Int × Int × Int × Int × Int × Int × Int × Int × Int × Bool × Bool × Bool × Int × Int × Int × Int × Int)) (h : okR (x.2.1, x.2.2.1, x.2.2.2.1, ()) = true) : Tot (atlasref19_may.q6.l 64 x) := by
  unfold atlasref19_may.q6.l
  repeat' first
    | with_reducible exact Tot.is
    | with_reducible exact listed_tot _ _
    | with_reducible exact atlasref19_may_q3_tot _ (by assumption)
    | with_reducible exact atlasref19_may_q5_tot _ 
    | with_reducible exact atlasref19_may_q7_tot _ (by assumption)
    | (with_reducible refine Tot.elim (fun _ => ?_) (fun _ => ?_))
    | (with_reducible refine Tot.bif (fun _ => ?_) (fun _ => ?_))
    | (with_reducible refine Tot.bind ?_ (fun _ => ?_))
    | (show Tot (atlasref19_any15.f 64 ⟨_, _, _⟩ _); exact any15_tot (_, _, _, ()) (by assumption) _)
theorem atlasref19_may_q4_tot (x : (Bool × (List Int) × Int × ByteArray × Int × Int × Bool × Int × Int × Int × Int × Int × Int × Int × Int × Int × Bool × Bool × Bool × Int × Int × Int × Int × Int)) (h : okR (x.2.1, x.2.2.1, x.2.2.2.1, ()) = true) : Tot (atlasref19_may.q4.l 64 x) := by
  unfold atlasref19_may.q4.l
  repeat' first
    | with_reducible exact Tot.is
    | with_reducible exact listed_tot _ _
    | with_reducible exact atlasref19_may_q3_tot _ (by assumption)
    | with_reducible exact atlasref19_may_q5_tot _ 
    | with_reducible exact atlasref19_may_q7_tot _ (by assumption)
    | with_reducible exact atlasref19_may_q6_tot _ (by assumption)
    | (with_reducible refine Tot.elim (fun _ => ?_) (fun _ => ?_))
    | (with_reducible refine Tot.bif (fun _ => ?_) (fun _ => ?_))
    | (with_reducible refine Tot.bind ?_ (fun _ => ?_))
    | (show Tot (atlasref19_any15.f 64 ⟨_, _, _⟩ _); exact any15_tot (_, _, _, ()) (by assumption) _)
theorem atlasref19_may_q2_tot (x : (Bool × (List Int) × Int × ByteArray × Int × Int × Bool × Int × Int × Int × Int × Int × Int × Int × Int × Int × Bool × Bool × Bool × Int × Int × Int × Int × Int)) (h : okR (x.2.1, x.2.2.1, x.2.2.2.1, ()) = true) : Tot (atlasref19_may.q2.l 64 x) := by
  unfold atlasref19_may.q2.l
  repeat' first
    | with_reducible exact Tot.is
    | with_reducible exact listed_tot _ _
    | with_reducible exact atlasref19_may_q3_tot _ (by assumption)
    | with_reducible exact atlasref19_may_q5_tot _ 
    | with_reducible exact atlasref19_may_q7_tot _ (by assumption)
    | with_reducible exact atlasref19_may_q6_tot _ (by assumption)
    | with_reducible exact atlasref19_may_q4_tot _ (by assumption)
    | (with_reducible refine Tot.elim (fun _ => ?_) (fun _ => ?_))
    | (with_reducible refine Tot.bif (fun _ => ?_) (fun _ => ?_))
    | (with_reducible refine Tot.bind ?_ (fun _ => ?_))
    | (show Tot (atlasref19_any15.f 64 ⟨_, _, _⟩ _); exact any15_tot (_, _, _, ()) (by assumption) _)
theorem atlasref19_may_q1_tot (x : (Bool × (List Int) × Int × ByteArray × Int × Int × Bool × Int × Int × Int × Int × Int × Int × Int × Int × Int × Bool × Bool × Bool × Int × Int × Int × Int × Int)) (h : okR (x.2.1, x.2.2.1, x.2.2.2.1, ()) = true) : Tot (atlasref19_may.q1.l 64 x) := by
  unfold atlasref19_may.q1.l
  repeat' first
    | with_reducible exact Tot.is
    | with_reducible exact listed_tot _ _
    | with_reducible exact atlasref19_may_q3_tot _ (by assumption)
    | with_reducible exact atlasref19_may_q5_tot _ 
    | with_reducible exact atlasref19_may_q7_tot _ (by assumption)
    | with_reducible exact atlasref19_may_q6_tot _ (by assumption)
    | with_reducible exact atlasref19_may_q4_tot _ (by assumption)
    | with_reducible exact atlasref19_may_q2_tot _ (by assumption)
    | (with_reducible refine Tot.elim (fun _ => ?_) (fun _ => ?_))
    | (with_reducible refine Tot.bif (fun _ => ?_) (fun _ => ?_))
    | (with_reducible refine Tot.bind ?_ (fun _ => ?_))
    | (show Tot (atlasref19_any15.f 64 ⟨_, _, _⟩ _); exact any15_tot (_, _, _, ()) (by assumption) _)
theorem atlasref19_may_q0_tot (x : ((List Int) × Int × ByteArray × Int × Int × Bool × Int × Int × Int × Int × Int × Int × Int × Int × Int × Bool × Bool × Bool × Int × Int × Int × Int × Int)) (h : okR (x.1, x.2.1, x.2.2.1, ()) = true) : Tot (atlasref19_may.q0.l 64 x) := by
  unfold atlasref19_may.q0.l
  repeat' first
    | with_reducible exact Tot.is
    | with_reducible exact listed_tot _ _
    | with_reducible exact atlasref19_may_q3_tot _ (by assumption)
    | with_reducible exact atlasref19_may_q5_tot _ 
    | with_reducible exact atlasref19_may_q7_tot _ (by assumption)
    | with_reducible exact atlasref19_may_q6_tot _ (by assumption)
    | with_reducible exact atlasref19_may_q4_tot _ (by assumption)
    | with_reducible exact atlasref19_may_q2_tot _ (by assumption)
    | with_reducible exact atlasref19_may_q1_tot _ (by assumption)
    | (with_reducible refine Tot.elim (fun _ => ?_) (fun _ => ?_))
    | (with_reducible refine Tot.bif (fun _ => ?_) (fun _ => ?_))
    | (with_reducible refine Tot.bind ?_ (fun _ => ?_))
    | (show Tot (atlasref19_any15.f 64 ⟨_, _, _⟩ _); exact any15_tot (_, _, _, ()) (by assumption) _)
theorem rmay_tot (r : RowT) (h : okR r = true) (j : T26) : Tot (atlasref19_may.f 64 ⟨r.1, r.2.1, r.2.2.1⟩ j) := by
  unfold atlasref19_may.f
  repeat' first
    | with_reducible exact Tot.is
    | with_reducible exact listed_tot _ _
    | ((with_reducible refine atlasref19_may_q3_tot _ ?_) <;> exact h)
    | with_reducible exact atlasref19_may_q5_tot _
    | ((with_reducible refine atlasref19_may_q7_tot _ ?_) <;> exact h)
    | ((with_reducible refine atlasref19_may_q6_tot _ ?_) <;> exact h)
    | ((with_reducible refine atlasref19_may_q4_tot _ ?_) <;> exact h)
    | ((with_reducible refine atlasref19_may_q2_tot _ ?_) <;> exact h)
    | ((with_reducible refine atlasref19_may_q1_tot _ ?_) <;> exact h)
    | ((with_reducible refine atlasref19_may_q0_tot _ ?_) <;> exact h)
    | (with_reducible refine Tot.elim (fun _ => ?_) (fun _ => ?_))
    | (with_reducible refine Tot.bif (fun _ => ?_) (fun _ => ?_))
    | (with_reducible refine Tot.bind ?_ (fun _ => ?_))
    | (show Tot (atlasref19_any15.f 64 ⟨_, _, _⟩ _); exact any15_tot (_, _, _, ()) (by assumption) _)

/-- May it be, by the reference? -/
def mayV (r : RowT) (j : T26) : Bool := match atlasref19_may.f 64 ⟨r.1, r.2.1, r.2.2.1⟩ j with
  | some b => b
  | none => false
theorem may_eq (r : RowT) (h : okR r = true) (j : T26) : atlasref19_may.f 64 ⟨r.1, r.2.1, r.2.2.1⟩ j = some (mayV r j) := by
  obtain ⟨b, hb⟩ := rmay_tot r h j
  unfold mayV; rw [hb]
def sayR (r : RowT) (x : Int) : T26 := sayV r.1 r.2.1 r.2.2.1 x
def passV (x : Int) (r : RowT) : Bool := (fitsL r.2.2.1.data.toList 32 x && r.1.any fun y => y == (sayR r x).f1_Op) && mayV r (sayR r x)
def firstV (x : Int) : List RowT → Option (RowT × T26)
  | [] => none
  | r :: l => bif passV x r then some (r, sayR r x) else firstV x l
def allOk : List RowT → Bool
  | [] => true
  | r :: l => okR r && allOk l

def foundV (t : RowT × T26) := (true, t.1.1, t.1.2.1, t.1.2.2.1, t.2.f0_Cond, t.2.f1_Op, t.2.f2_S, t.2.f3_Form, t.2.f4_Rd, t.2.f5_Rn, t.2.f6_Rm, t.2.f7_Rs, t.2.f8_Ra, t.2.f9_Imm, t.2.f10_Shift, t.2.f11_Amount, t.2.f12_Pre, t.2.f13_Up, t.2.f14_Write, t.2.f15_List, t.2.f16_Tuple_CRn, t.2.f17_Tuple_Op1, t.2.f18_Tuple_CRm, t.2.f19_Tuple_Op2)
theorem find_loop (w : Int) (w0 : 0 ≤ w) (l : List RowT) (hl : l.length ≤ 1000) : ∀ (cs : List RowT) (n i : Nat) (J : _), l.drop i = cs → cs.length < n → allOk cs = true →
    atlasref19_find.q0.l 64 n (w, l, (i : Int), J) = some (match firstV w cs with
      | some t => .inl (foundV t)
      | none => .inr J) := by
  intro cs
  induction cs with
  | nil =>
    intro n i J hd hn _
    obtain ⟨n, rfl⟩ : ∃ m, n = m + 1 := ⟨n - 1, by simp at hn; omega⟩
    have := List.drop_eq_nil_iff.1 hd
    have c1 : decide ((i : Int) < ((l.length : Nat) : Int)) = false := by simp; omega
    simp only [atlasref19_find.q0.l, c1, cond_false, firstV]
  | cons c cs ih =>
    intro n i J hd hn hok
    obtain ⟨n, rfl⟩ : ∃ m, n = m + 1 := ⟨n - 1, by simp at hn; omega⟩
    have h1 : l[i]? = some c := by
      have e := List.getElem?_drop (xs := l) (i := i) (j := 0)
      rw [hd] at e
      simpa using e.symm
    have hi := (List.getElem?_eq_some_iff.1 h1).1
    have c1 : decide ((i : Int) < ((l.length : Nat) : Int)) = true := by simp; omega
    have c2 : decide ((0 : Int) ≤ (i : Int)) = true := by simp
    have e1 : IntKind.wrap .i64 ((i : Int) + 1) = ((i + 1 : Nat) : Int) := by rw [wrap_i64 _ (by omega) (by omega)]; omega
    have hg : l.getD (Int.toNat (i : Int)) ([], 0, ByteArray.empty, ()) = c := by rw [Int.toNat_natCast, List.getD_eq_getElem?_getD, h1]; rfl
    have hd' : l.drop (i + 1) = cs := by
      have e : List.drop (i + 1) l = List.drop 1 (List.drop i l) := by rw [List.drop_drop, Nat.add_comm]
      rw [e, hd]; rfl
    simp only [allOk, Bool.and_eq_true] at hok
    have hrec := ih n (i + 1) J hd' (by simp at hn; omega) hok.2
    have hok1 := hok.1
    have hok2 := hok.1
    simp only [okR, Bool.and_eq_true, decide_eq_true_eq] at hok2
    have f1 := fits_eq hok2.1.1 w w0
    have f2 := say_eq c.1 c.2.1 hok2.1.1 hok2.1.2 w w0
    have f3 := in_eq c.1 (sayV c.1 c.2.1 c.2.2.1 w).f1_Op hok2.2
    have f4 := may_eq c hok1 (sayV c.1 c.2.1 c.2.2.1 w)
    simp only [atlasref19_find.q0.l, c1, c2, Bool.and_self, cond_true, hg, e1, f1, f2, f3, Option.bind_some, f4]
    have hrec' : atlasref19_find.q0.l 64 n (w, l, ((i + 1 : Nat) : Int), J) = _ := hrec
    rw [hrec']
    simp only [firstV, passV, sayR]
    cases fitsL c.2.2.1.data.toList 32 w <;> cases c.1.any (fun y => y == (sayV c.1 c.2.1 c.2.2.1 w).f1_Op) <;> cases mayV c (sayV c.1 c.2.1 c.2.2.1 w) <;> rfl

def rowsV : List RowT := [
  ([1, 2, 3, 4, 5, 6, 7, 8, 13, 15], 1, ⟨#[99, 99, 99, 99, 32, 48, 48, 49, 32, 111, 111, 111, 111, 32, 115, 32, 110, 110, 110, 110, 32, 100, 100, 100, 100, 32, 105, 105, 105, 105, 32, 105, 105, 105, 105, 32, 105, 105, 105, 105]⟩, ()),
  ([1, 2, 3, 4, 5, 6, 7, 8, 13, 15], 2, ⟨#[99, 99, 99, 99, 32, 48, 48, 48, 32, 111, 111, 111, 111, 32, 115, 32, 110, 110, 110, 110, 32, 100, 100, 100, 100, 32, 107, 107, 107, 107, 107, 32, 116, 116, 32, 48, 32, 109, 109, 109, 109]⟩, ()),
  ([1, 2, 3, 4, 5, 6, 7, 8, 13, 15], 3, ⟨#[99, 99, 99, 99, 32, 48, 48, 48, 32, 111, 111, 111, 111, 32, 115, 32, 110, 110, 110, 110, 32, 100, 100, 100, 100, 32, 114, 114, 114, 114, 32, 48, 32, 116, 116, 32, 49, 32, 109, 109, 109, 109]⟩, ()),
  ([9, 10, 11, 12], 1, ⟨#[99, 99, 99, 99, 32, 48, 48, 49, 32, 111, 111, 111, 111, 32, 49, 32, 110, 110, 110, 110, 32, 48, 48, 48, 48, 32, 105, 105, 105, 105, 32, 105, 105, 105, 105, 32, 105, 105, 105, 105]⟩, ()),
  ([9, 10, 11, 12], 2, ⟨#[99, 99, 99, 99, 32, 48, 48, 48, 32, 111, 111, 111, 111, 32, 49, 32, 110, 110, 110, 110, 32, 48, 48, 48, 48, 32, 107, 107, 107, 107, 107, 32, 116, 116, 32, 48, 32, 109, 109, 109, 109]⟩, ()),
  ([9, 10, 11, 12], 3, ⟨#[99, 99, 99, 99, 32, 48, 48, 48, 32, 111, 111, 111, 111, 32, 49, 32, 110, 110, 110, 110, 32, 48, 48, 48, 48, 32, 114, 114, 114, 114, 32, 48, 32, 116, 116, 32, 49, 32, 109, 109, 109, 109]⟩, ()),
  ([14, 16], 1, ⟨#[99, 99, 99, 99, 32, 48, 48, 49, 32, 111, 111, 111, 111, 32, 115, 32, 48, 48, 48, 48, 32, 100, 100, 100, 100, 32, 105, 105, 105, 105, 32, 105, 105, 105, 105, 32, 105, 105, 105, 105]⟩, ()),
  ([14, 16], 2, ⟨#[99, 99, 99, 99, 32, 48, 48, 48, 32, 111, 111, 111, 111, 32, 115, 32, 48, 48, 48, 48, 32, 100, 100, 100, 100, 32, 107, 107, 107, 107, 107, 32, 116, 116, 32, 48, 32, 109, 109, 109, 109]⟩, ()),
  ([14, 16], 3, ⟨#[99, 99, 99, 99, 32, 48, 48, 48, 32, 111, 111, 111, 111, 32, 115, 32, 48, 48, 48, 48, 32, 100, 100, 100, 100, 32, 114, 114, 114, 114, 32, 48, 32, 116, 116, 32, 49, 32, 109, 109, 109, 109]⟩, ()),
  ([17], 0, ⟨#[99, 99, 99, 99, 32, 48, 48, 49, 49, 32, 48, 48, 48, 48, 32, 105, 105, 105, 105, 32, 100, 100, 100, 100, 32, 105, 105, 105, 105, 32, 105, 105, 105, 105, 32, 105, 105, 105, 105]⟩, ()),
  ([18], 0, ⟨#[99, 99, 99, 99, 32, 48, 48, 49, 49, 32, 48, 49, 48, 48, 32, 105, 105, 105, 105, 32, 100, 100, 100, 100, 32, 105, 105, 105, 105, 32, 105, 105, 105, 105, 32, 105, 105, 105, 105]⟩, ()),
  ([19], 0, ⟨#[99, 99, 99, 99, 32, 48, 48, 48, 48, 32, 48, 48, 48, 115, 32, 100, 100, 100, 100, 32, 48, 48, 48, 48, 32, 114, 114, 114, 114, 32, 49, 48, 48, 49, 32, 109, 109, 109, 109]⟩, ()),
  ([20], 0, ⟨#[99, 99, 99, 99, 32, 48, 48, 48, 48, 32, 48, 48, 49, 115, 32, 100, 100, 100, 100, 32, 97, 97, 97, 97, 32, 114, 114, 114, 114, 32, 49, 48, 48, 49, 32, 109, 109, 109, 109]⟩, ()),
  ([21], 0, ⟨#[99, 99, 99, 99, 32, 48, 48, 48, 48, 32, 49, 48, 48, 115, 32, 100, 100, 100, 100, 32, 97, 97, 97, 97, 32, 114, 114, 114, 114, 32, 49, 48, 48, 49, 32, 109, 109, 109, 109]⟩, ()),
  ([22], 0, ⟨#[99, 99, 99, 99, 32, 48, 48, 48, 48, 32, 49, 48, 49, 115, 32, 100, 100, 100, 100, 32, 97, 97, 97, 97, 32, 114, 114, 114, 114, 32, 49, 48, 48, 49, 32, 109, 109, 109, 109]⟩, ()),
  ([23], 0, ⟨#[99, 99, 99, 99, 32, 48, 48, 48, 48, 32, 49, 49, 48, 115, 32, 100, 100, 100, 100, 32, 97, 97, 97, 97, 32, 114, 114, 114, 114, 32, 49, 48, 48, 49, 32, 109, 109, 109, 109]⟩, ()),
  ([24], 0, ⟨#[99, 99, 99, 99, 32, 48, 48, 48, 48, 32, 49, 49, 49, 115, 32, 100, 100, 100, 100, 32, 97, 97, 97, 97, 32, 114, 114, 114, 114, 32, 49, 48, 48, 49, 32, 109, 109, 109, 109]⟩, ()),
  ([25], 0, ⟨#[99, 99, 99, 99, 32, 48, 48, 48, 49, 32, 48, 49, 49, 48, 32, 49, 49, 49, 49, 32, 100, 100, 100, 100, 32, 49, 49, 49, 49, 32, 48, 48, 48, 49, 32, 109, 109, 109, 109]⟩, ()),
  ([26], 0, ⟨#[99, 99, 99, 99, 32, 48, 49, 49, 48, 32, 49, 48, 49, 49, 32, 49, 49, 49, 49, 32, 100, 100, 100, 100, 32, 49, 49, 49, 49, 32, 48, 48, 49, 49, 32, 109, 109, 109, 109]⟩, ()),
  ([27], 0, ⟨#[99, 99, 99, 99, 32, 48, 49, 49, 48, 32, 49, 49, 49, 48, 32, 49, 49, 49, 49, 32, 100, 100, 100, 100, 32, 107, 107, 48, 48, 32, 48, 49, 49, 49, 32, 109, 109, 109, 109]⟩, ()),
  ([28], 0, ⟨#[99, 99, 99, 99, 32, 48, 49, 49, 48, 32, 49, 49, 49, 49, 32, 49, 49, 49, 49, 32, 100, 100, 100, 100, 32, 107, 107, 48, 48, 32, 48, 49, 49, 49, 32, 109, 109, 109, 109]⟩, ()),
  ([29], 0, ⟨#[99, 99, 99, 99, 32, 48, 49, 49, 48, 32, 49, 48, 49, 48, 32, 49, 49, 49, 49, 32, 100, 100, 100, 100, 32, 107, 107, 48, 48, 32, 48, 49, 49, 49, 32, 109, 109, 109, 109]⟩, ()),
  ([30], 0, ⟨#[99, 99, 99, 99, 32, 48, 49, 49, 48, 32, 49, 48, 49, 49, 32, 49, 49, 49, 49, 32, 100, 100, 100, 100, 32, 107, 107, 48, 48, 32, 48, 49, 49, 49, 32, 109, 109, 109, 109]⟩, ()),
  ([41], 0, ⟨#[99, 99, 99, 99, 32, 49, 48, 49, 48, 32, 105, 105, 105, 105, 32, 105, 105, 105, 105, 32, 105, 105, 105, 105, 32, 105, 105, 105, 105, 32, 105, 105, 105, 105, 32, 105, 105, 105, 105]⟩, ()),
  ([42], 0, ⟨#[99, 99, 99, 99, 32, 49, 48, 49, 49, 32, 105, 105, 105, 105, 32, 105, 105, 105, 105, 32, 105, 105, 105, 105, 32, 105, 105, 105, 105, 32, 105, 105, 105, 105, 32, 105, 105, 105, 105]⟩, ()),
  ([43], 0, ⟨#[99, 99, 99, 99, 32, 48, 48, 48, 49, 32, 48, 48, 49, 48, 32, 49, 49, 49, 49, 32, 49, 49, 49, 49, 32, 49, 49, 49, 49, 32, 48, 48, 48, 49, 32, 109, 109, 109, 109]⟩, ()),
  ([44], 0, ⟨#[99, 99, 99, 99, 32, 48, 48, 48, 49, 32, 48, 48, 49, 48, 32, 49, 49, 49, 49, 32, 49, 49, 49, 49, 32, 49, 49, 49, 49, 32, 48, 48, 49, 49, 32, 109, 109, 109, 109]⟩, ()),
  ([45], 0, ⟨#[99, 99, 99, 99, 32, 49, 49, 49, 49, 32, 105, 105, 105, 105, 32, 105, 105, 105, 105, 32, 105, 105, 105, 105, 32, 105, 105, 105, 105, 32, 105, 105, 105, 105, 32, 105, 105, 105, 105]⟩, ()),
  ([46], 0, ⟨#[99, 99, 99, 99, 32, 48, 48, 48, 49, 32, 48, 48, 49, 48, 32, 105, 105, 105, 105, 32, 105, 105, 105, 105, 32, 105, 105, 105, 105, 32, 48, 49, 49, 49, 32, 105, 105, 105, 105]⟩, ()),
  ([47], 0, ⟨#[99, 99, 99, 99, 32, 48, 48, 48, 49, 32, 48, 115, 48, 48, 32, 49, 49, 49, 49, 32, 100, 100, 100, 100, 32, 48, 48, 48, 48, 32, 48, 48, 48, 48, 32, 48, 48, 48, 48]⟩, ()),
  ([48], 2, ⟨#[99, 99, 99, 99, 32, 48, 48, 48, 49, 32, 48, 115, 49, 48, 32, 107, 107, 107, 107, 32, 49, 49, 49, 49, 32, 48, 48, 48, 48, 32, 48, 48, 48, 48, 32, 109, 109, 109, 109]⟩, ()),
  ([48], 1, ⟨#[99, 99, 99, 99, 32, 48, 48, 49, 49, 32, 48, 115, 49, 48, 32, 107, 107, 107, 107, 32, 49, 49, 49, 49, 32, 105, 105, 105, 105, 32, 105, 105, 105, 105, 32, 105, 105, 105, 105]⟩, ()),
  ([49], 0, ⟨#[99, 99, 99, 99, 32, 49, 49, 49, 48, 32, 121, 121, 121, 48, 32, 120, 120, 120, 120, 32, 100, 100, 100, 100, 32, 49, 49, 49, 49, 32, 118, 118, 118, 49, 32, 122, 122, 122, 122]⟩, ()),
  ([50], 0, ⟨#[99, 99, 99, 99, 32, 49, 49, 49, 48, 32, 121, 121, 121, 49, 32, 120, 120, 120, 120, 32, 100, 100, 100, 100, 32, 49, 49, 49, 49, 32, 118, 118, 118, 49, 32, 122, 122, 122, 122]⟩, ()),
  ([51], 0, ⟨#[99, 99, 99, 99, 32, 48, 48, 49, 49, 32, 48, 48, 49, 48, 32, 48, 48, 48, 48, 32, 49, 49, 49, 49, 32, 48, 48, 48, 48, 32, 48, 48, 48, 48, 32, 48, 48, 48, 48]⟩, ()),
  ([52], 0, ⟨#[99, 99, 99, 99, 32, 48, 48, 49, 49, 32, 48, 48, 49, 48, 32, 48, 48, 48, 48, 32, 49, 49, 49, 49, 32, 48, 48, 48, 48, 32, 48, 48, 48, 48, 32, 48, 48, 49, 49]⟩, ()),
  ([31], 1, ⟨#[99, 99, 99, 99, 32, 48, 49, 48, 112, 32, 117, 48, 119, 49, 32, 110, 110, 110, 110, 32, 100, 100, 100, 100, 32, 105, 105, 105, 105, 32, 105, 105, 105, 105, 32, 105, 105, 105, 105]⟩, ()),
  ([32], 1, ⟨#[99, 99, 99, 99, 32, 48, 49, 48, 112, 32, 117, 48, 119, 48, 32, 110, 110, 110, 110, 32, 100, 100, 100, 100, 32, 105, 105, 105, 105, 32, 105, 105, 105, 105, 32, 105, 105, 105, 105]⟩, ()),
  ([33], 1, ⟨#[99, 99, 99, 99, 32, 48, 49, 48, 112, 32, 117, 49, 119, 49, 32, 110, 110, 110, 110, 32, 100, 100, 100, 100, 32, 105, 105, 105, 105, 32, 105, 105, 105, 105, 32, 105, 105, 105, 105]⟩, ()),
  ([34], 1, ⟨#[99, 99, 99, 99, 32, 48, 49, 48, 112, 32, 117, 49, 119, 48, 32, 110, 110, 110, 110, 32, 100, 100, 100, 100, 32, 105, 105, 105, 105, 32, 105, 105, 105, 105, 32, 105, 105, 105, 105]⟩, ()),
  ([31], 2, ⟨#[99, 99, 99, 99, 32, 48, 49, 49, 112, 32, 117, 48, 119, 49, 32, 110, 110, 110, 110, 32, 100, 100, 100, 100, 32, 107, 107, 107, 107, 107, 32, 116, 116, 32, 48, 32, 109, 109, 109, 109]⟩, ()),
  ([32], 2, ⟨#[99, 99, 99, 99, 32, 48, 49, 49, 112, 32, 117, 48, 119, 48, 32, 110, 110, 110, 110, 32, 100, 100, 100, 100, 32, 107, 107, 107, 107, 107, 32, 116, 116, 32, 48, 32, 109, 109, 109, 109]⟩, ()),
  ([33], 2, ⟨#[99, 99, 99, 99, 32, 48, 49, 49, 112, 32, 117, 49, 119, 49, 32, 110, 110, 110, 110, 32, 100, 100, 100, 100, 32, 107, 107, 107, 107, 107, 32, 116, 116, 32, 48, 32, 109, 109, 109, 109]⟩, ()),
  ([34], 2, ⟨#[99, 99, 99, 99, 32, 48, 49, 49, 112, 32, 117, 49, 119, 48, 32, 110, 110, 110, 110, 32, 100, 100, 100, 100, 32, 107, 107, 107, 107, 107, 32, 116, 116, 32, 48, 32, 109, 109, 109, 109]⟩, ()),
  ([35], 1, ⟨#[99, 99, 99, 99, 32, 48, 48, 48, 112, 32, 117, 49, 119, 49, 32, 110, 110, 110, 110, 32, 100, 100, 100, 100, 32, 105, 105, 105, 105, 32, 49, 48, 49, 49, 32, 105, 105, 105, 105]⟩, ()),
  ([36], 1, ⟨#[99, 99, 99, 99, 32, 48, 48, 48, 112, 32, 117, 49, 119, 48, 32, 110, 110, 110, 110, 32, 100, 100, 100, 100, 32, 105, 105, 105, 105, 32, 49, 48, 49, 49, 32, 105, 105, 105, 105]⟩, ()),
  ([37], 1, ⟨#[99, 99, 99, 99, 32, 48, 48, 48, 112, 32, 117, 49, 119, 49, 32, 110, 110, 110, 110, 32, 100, 100, 100, 100, 32, 105, 105, 105, 105, 32, 49, 49, 48, 49, 32, 105, 105, 105, 105]⟩, ()),
  ([38], 1, ⟨#[99, 99, 99, 99, 32, 48, 48, 48, 112, 32, 117, 49, 119, 49, 32, 110, 110, 110, 110, 32, 100, 100, 100, 100, 32, 105, 105, 105, 105, 32, 49, 49, 49, 49, 32, 105, 105, 105, 105]⟩, ()),
  ([35], 2, ⟨#[99, 99, 99, 99, 32, 48, 48, 48, 112, 32, 117, 48, 119, 49, 32, 110, 110, 110, 110, 32, 100, 100, 100, 100, 32, 48, 48, 48, 48, 32, 49, 48, 49, 49, 32, 109, 109, 109, 109]⟩, ()),
  ([36], 2, ⟨#[99, 99, 99, 99, 32, 48, 48, 48, 112, 32, 117, 48, 119, 48, 32, 110, 110, 110, 110, 32, 100, 100, 100, 100, 32, 48, 48, 48, 48, 32, 49, 48, 49, 49, 32, 109, 109, 109, 109]⟩, ()),
  ([37], 2, ⟨#[99, 99, 99, 99, 32, 48, 48, 48, 112, 32, 117, 48, 119, 49, 32, 110, 110, 110, 110, 32, 100, 100, 100, 100, 32, 48, 48, 48, 48, 32, 49, 49, 48, 49, 32, 109, 109, 109, 109]⟩, ()),
  ([38], 2, ⟨#[99, 99, 99, 99, 32, 48, 48, 48, 112, 32, 117, 48, 119, 49, 32, 110, 110, 110, 110, 32, 100, 100, 100, 100, 32, 48, 48, 48, 48, 32, 49, 49, 49, 49, 32, 109, 109, 109, 109]⟩, ()),
  ([39], 0, ⟨#[99, 99, 99, 99, 32, 49, 48, 48, 112, 32, 117, 48, 119, 49, 32, 110, 110, 110, 110, 32, 108, 108, 108, 108, 32, 108, 108, 108, 108, 32, 108, 108, 108, 108, 32, 108, 108, 108, 108]⟩, ()),
  ([40], 0, ⟨#[99, 99, 99, 99, 32, 49, 48, 48, 112, 32, 117, 48, 119, 48, 32, 110, 110, 110, 110, 32, 108, 108, 108, 108, 32, 108, 108, 108, 108, 32, 108, 108, 108, 108, 32, 108, 108, 108, 108]⟩, ())]
theorem rows_eq : atlasref19_Rows.f = some rowsV := by kernel_rfl
theorem rows_ok : (allOk rowsV && decide (rowsV.length = 54)) = true := by kernel_rfl
theorem find_eq (w : Int) (w0 : 0 ≤ w) : atlasref19_find.f 64 w = some (match firstV w rowsV with
    | some t => (⟨t.1.1, t.1.2.1, t.1.2.2.1⟩, t.2, true)
    | none => (⟨[], 0, ByteArray.empty⟩, ⟨0, 0, false, 0, 0, 0, 0, 0, 0, 0, 0, 0, false, false, false, 0, 0, 0, 0, 0⟩, false)) := by
  have h := rows_ok
  simp only [Bool.and_eq_true, decide_eq_true_eq] at h
  have e := find_loop w w0 rowsV (by omega) rowsV 64 0 (0, ByteArray.empty, 0, 0, false, 0, 0, 0, 0, 0, 0, 0, 0, 0, false, false, false, 0, 0, 0, 0, 0, ([] : List Int)) rfl (by omega) h.1
  unfold atlasref19_find.f
  rw [rows_eq, Option.bind_some]
  have e' : atlasref19_find.q0.l 64 64 (w, rowsV, 0, 0, ByteArray.empty, 0, 0, false, 0, 0, 0, 0, 0, 0, 0, 0, 0, false, false, false, 0, 0, 0, 0, 0, ([] : List Int)) = _ := e
  rw [e', Option.bind_some]
  cases firstV w rowsV with
  | none => rfl
  | some t => rfl
theorem rdecode_eq (w : Int) (w0 : 0 ≤ w) : atlasref19_Decode.f 64 w = some (match firstV w rowsV with
    | some t => (t.2, true)
    | none => (⟨0, 0, false, 0, 0, 0, 0, 0, 0, 0, 0, 0, false, false, false, 0, 0, 0, 0, 0⟩, false)) := by
  unfold atlasref19_Decode.f
  rw [find_eq w w0, Option.bind_some]
  cases firstV w rowsV with
  | none => rfl
  | some t => rfl
end Go.Va
