/-
  What is built part by part, and places by index, abstractly.
  Conditions: none.
-/
import Derived.Test.YtnidnmhcjngmeaaGreatVaStep
set_option linter.unusedVariables false
set_option linter.unusedSimpArgs false
set_option autoImplicit false
namespace Go.Va

/-! ### Filling cells -/
theorem foldl_put (vs : List Value) : ∀ (k : Nat) (cs : Array Value) (off : Nat), off + k + vs.length ≤ cs.size →
    (vs.zipIdx k).foldl (fun cs (p : Value × Nat) => cs.setIfInBounds (off + p.2) p.1) cs = (cs.toList.take (off + k) ++ vs ++ cs.toList.drop (off + k + vs.length)).toArray := by
  induction vs with
  | nil => intro k cs off h; simp
  | cons v vs ih =>
    intro k cs off h
    simp only [List.length_cons] at h
    rw [List.zipIdx_cons, List.foldl_cons, ih (k + 1) _ off (by simp; omega)]
    congr 1
    apply List.ext_getElem?
    intro j
    simp only [Array.toList_setIfInBounds, List.length_cons]
    simp only [List.getElem?_append, List.getElem?_take, List.getElem?_drop, List.length_append, List.length_take, List.length_set, Array.length_toList, List.length_cons, List.getElem?_set]
    have e1 : min (off + (k + 1)) cs.size = off + k + 1 := by omega
    have e2 : min (off + k) cs.size = off + k := by omega
    simp only [e1, e2]
    rcases Nat.lt_trichotomy j (off + k) with hj | hj | hj
    · rw [if_pos (by omega), if_pos (by omega), if_pos (by omega), if_neg (by omega), if_pos (by omega), if_pos hj, if_pos hj]
    · subst hj
      rw [if_pos (by omega), if_pos (by omega), if_pos (by omega), if_pos rfl, if_pos (by omega), if_pos (by omega), if_neg (by omega)]
      simp
    · by_cases h2 : j < off + k + 1 + vs.length
      · rw [if_pos h2, if_neg (by omega), if_pos (by omega), if_neg (by omega)]
        have : j - (off + k) = (j - (off + k + 1)) + 1 := by omega
        rw [this, List.getElem?_cons_succ]
      · rw [if_neg h2, if_neg (by omega), if_neg (by omega)]
        congr 1
        omega

def fillA (place : Nat → Option (Nat × Nat)) (tm : List AV) (cells : List AV) : List (Nat × Operand) → Option (List AV)
  | [] => some cells
  | p :: rest => match place p.1, cellsA (evA tm p.2) with
    | some q, some vs => bif decide (vs.length = q.2) && decide (q.1 + vs.length ≤ cells.length) then fillA place tm (cells.take q.1 ++ vs ++ cells.drop (q.1 + vs.length)) rest else none
    | _, _ => none

theorem fillA_ok {place place' : Nat → Option (Nat × Nat)} (hpl : ∀ i q, place i = some q → place' i = some q) {tm : List AV} {C : Cx} {m : Bool} {ev : Operand → Value} : ∀ (parts : List (Nat × Operand)) (cs r : List AV) (vs : List Value),
    fillA place tm cs parts = some r → (∀ p ∈ parts, VRel C m (evA tm p.2) (ev p.2)) → Cells C m cs vs →
    ∃ rs : List Value, Instr.fill place' vs.toArray (parts.map fun p => (p.1, ev p.2)) = some rs.toArray ∧ Cells C m r rs
  | [], cs, r, vs, h, hv, hc => by
    simp only [fillA, Option.some.injEq] at h; subst h
    exact ⟨vs, by simp [Instr.fill], hc⟩
  | p :: rest, cs, r, vs, h, hv, hc => by
    unfold fillA at h
    split at h
    · rename_i q us hq hus
      cases hcond : (decide (us.length = q.2) && decide (q.1 + us.length ≤ cs.length)) with
      | false => rw [hcond] at h; cases h
      | true =>
        rw [hcond, cond_true] at h
        simp only [Bool.and_eq_true, decide_eq_true_eq] at hcond
        have h1 := cellsA_ok hus (hv p (by simp))
        have hl : (ev p.2).cells.toList.length = us.length := h1.1
        have hl2 : (ev p.2).cells.size = us.length := by simpa using hl
        obtain ⟨rs, h2, h3⟩ := fillA_ok hpl rest _ r (vs.take q.1 ++ (ev p.2).cells.toList ++ vs.drop (q.1 + us.length)) h (fun x hx => hv x (by simp [hx])) (((hc.take q.1).append h1).append (hc.drop _))
        refine ⟨rs, ?_, h3⟩
        simp only [List.map_cons, Instr.fill, hpl _ _ hq]
        have hf := foldl_put (ev p.2).cells.toList 0 vs.toArray q.1 (by have := hc.1; simp only [List.size_toArray]; omega)
        simp only [Nat.add_zero] at hf
        have e : (ev p.2).cells.zipIdx.foldl (fun cs (x : Value × Nat) => cs.setIfInBounds (q.1 + x.2) x.1) vs.toArray = (vs.take q.1 ++ (ev p.2).cells.toList ++ vs.drop (q.1 + us.length)).toArray := by
          rw [← Array.foldl_toList, Array.toList_zipIdx, hf, hl]
        have hs : ¬ ((ev p.2).cells.size ≠ q.2 || decide (q.1 + (ev p.2).cells.size > vs.toArray.size)) = true := by
          have := hc.1
          simp only [List.size_toArray, Bool.or_eq_true, decide_eq_true_eq, not_or]
          omega
        rw [if_neg hs]
        exact (congrArg (fun z => Instr.fill place' z _) e).trans h2
    · cases h

def infoAll (P : Program) : List Field → Bool
  | [] => true
  | f :: l => match P.info? f.type with
    | some _ => infoAll P l
    | none => false

def placeS (P : Program) (fs : Array Field) (i : Nat) : Option (Nat × Nat) := match fs[i]? with
  | some f => match P.info? f.type with
    | some i => some (f.offset, i.size)
    | none => none
  | none => none

def buildA (P : Program) (tm : List AV) (t : TypeId) (parts : List (Nat × Operand)) : Option (List AV) :=
  match P.info? t with
  | some i => match i.zero with
    | some z => match P.underlying t with
      | some (.struct fs) => bif infoAll P fs.toList then fillA (placeS P fs) tm (z.cells.toList.map .val) parts else none
      | some (.array _ e) => match P.info? e with
        | some ie => fillA (fun j => some (j * ie.size, ie.size)) tm (z.cells.toList.map .val) parts
        | none => none
      | _ => none
    | none => none
  | none => none

theorem run_places {P : Program} (fs : Array Field) (h : infoAll P fs.toList = true) (w : World) :
    ∃ ps : Array (Nat × Nat), ((fs.mapM fun f => do pure (f.offset, ← sizeOf f.type)) : Sem (Array (Nat × Nat))).run P w = .ok ps w ∧ ∀ i q, placeS P fs i = some q → ps[i]? = some q := by
  obtain ⟨l⟩ := fs
  simp only at h
  suffices hs : ∃ ps : List (Nat × Nat), ((l.mapM fun f => do pure (f.offset, ← sizeOf f.type)) : Sem (List (Nat × Nat))).run P w = .ok ps w ∧ ∀ i q, placeS P l.toArray i = some q → ps[i]? = some q by
    obtain ⟨ps, h1, h2⟩ := hs
    refine ⟨ps.toArray, ?_, fun i q hq => by simpa using h2 i q hq⟩
    rw [Array.mapM_eq_mapM_toList, Sem.run_map, h1]; rfl
  induction l with
  | nil => exact ⟨[], by simp, fun i q hq => by simp [placeS] at hq⟩
  | cons f l ih =>
    simp only [infoAll] at h
    split at h
    · rename_i inf hinf
      obtain ⟨ps, h1, h2⟩ := ih h
      refine ⟨(f.offset, inf.size) :: ps, ?_, fun i q hq => ?_⟩
      · simp only [List.mapM_cons, Sem.run_bind, run_sizeOf hinf, Result.andThen_ok, Sem.run_pure, h1]
      · cases i with
        | zero => simpa [placeS, hinf] using hq
        | succ i => simpa using h2 i q (by simpa [placeS] using hq)
    · cases h

theorem buildA_ok {P : Program} {tm : List AV} {t : TypeId} {parts : List (Nat × Operand)} {r : List AV} (h : buildA P tm t parts = some r) {C : Cx} {m : Bool} {ev : Operand → Value}
    (hv : ∀ p ∈ parts, VRel C m (evA tm p.2) (ev p.2)) (w : World) : ∃ rs : List Value, (Instr.build t (parts.map fun p => (p.1, ev p.2)).toArray).run P w = .ok (.agg rs.toArray) w ∧ Cells C m r rs := by
  unfold buildA at h
  split at h
  · rename_i i hi
    split at h
    · rename_i z hz
      have hzr : (zeroValue t).run P w = .ok z w := by simp [zeroValue, typeInfo, hi, hz]
      split at h
      · rename_i fs hu
        cases hall : infoAll P fs.toList with
        | false => rw [hall] at h; cases h
        | true =>
          rw [hall, cond_true] at h
          obtain ⟨ps, h1, h2⟩ := run_places fs hall w
          obtain ⟨rs, h3, h4⟩ := fillA_ok (place' := (ps[·]?)) h2 parts _ r z.cells.toList h hv (Cells.vals C m _)
          refine ⟨rs, ?_, h4⟩
          simp only [Array.toArray_toList] at h3
          simp only [Instr.build, Sem.run_bind, hzr, Result.andThen_ok, run_underlying hu, h1, h3, Sem.run_pure]
      · rename_i n e hu
        split at h
        · rename_i ie hie
          obtain ⟨rs, h3, h4⟩ := fillA_ok (place' := fun j => some (j * ie.size, ie.size)) (fun _ _ h => h) parts _ r z.cells.toList h hv (Cells.vals C m _)
          refine ⟨rs, ?_, h4⟩
          simp only [Array.toArray_toList] at h3
          simp only [Instr.build, Sem.run_bind, hzr, Result.andThen_ok, run_underlying hu, run_sizeOf hie, h3, Sem.run_pure]
        · cases h
      · cases h
    · cases h
  · cases h

def zerosA (z : List AV) : Nat → List AV
  | 0 => []
  | n + 1 => z ++ zerosA z n

theorem zeros_eq (z : Array Value) (hz : 0 < z.size) (n : Nat) : ((Array.range (n * z.size)).map (z[· % z.size]!)).toList = (List.replicate n z.toList).flatten := by
  induction n with
  | zero => simp
  | succ n ih =>
    apply List.ext_getElem?
    intro j
    rw [List.replicate_succ, List.flatten_cons, List.getElem?_append]
    simp only [Array.toList_map, Array.toList_range, List.getElem?_map, Array.length_toList]
    have hm : (n + 1) * z.size = z.size + n * z.size := by rw [Nat.add_mul, Nat.one_mul, Nat.add_comm]
    by_cases h : j < z.size
    · rw [if_pos h]
      simp only [List.getElem?_range (show j < (n + 1) * z.size by rw [hm]; omega), Option.map_some, Nat.mod_eq_of_lt h]
      simp [h]
    · rw [if_neg h, ← ih]
      simp only [Array.toList_map, Array.toList_range, List.getElem?_map]
      by_cases h2 : j < (n + 1) * z.size
      · rw [List.getElem?_range h2, List.getElem?_range (show j - z.size < n * z.size by rw [hm] at h2; omega)]
        simp only [Option.map_some]
        have : j % z.size = (j - z.size) % z.size := by
          conv => lhs; rw [show j = (j - z.size) + z.size by omega]
          rw [Nat.add_mod_right]
        rw [this]
      · rw [List.getElem?_eq_none (by simp; omega), List.getElem?_eq_none (by simp; rw [hm] at h2; omega)]

theorem zerosA_eq (z : Array Value) (n : Nat) : zerosA (z.toList.map .val) n = ((List.replicate n z.toList).flatten).map .val := by
  induction n with
  | zero => simp [zerosA]
  | succ n ih => simp [zerosA, ih, List.replicate_succ]

section
variable {β : Type} (P : Program) (tm : List AV) (hp : List Blk) (K : ORes → Option β)

def buildK (t : TypeId) (parts : List (Nat × Operand)) : Option β := match buildA P tm t parts with
  | some cs => K ⟨.agg cs, [], [], none⟩
  | none => none

/-- The cells as a row of typed values. -/
def typedRow (e : TypeId) (sz len : Nat) (cs : List AV) : Option ((c : CT) × List c.D) := match ctOf P 6 e with
  | some c => bif (c.sz == sz && decide (cs.length = len * sz)) && AV.onlys noneb cs then (match c.decN len cs with
    | some l => some ⟨c, l⟩
    | none => none) else none
  | none => none

def buildSliceK (p : Nat) (t : TypeId) (len : Nat) (parts : List (Nat × Operand)) : Option β := match P.underlying t with
  | some (.slice e) => match P.info? e with
    | some ie => match ie.zero with
      | some z => bif (decide (0 < ie.size) && decide (z.cells.size = ie.size)) && decide (len * ie.size ≤ 16777216) then
          match fillA (fun i => some (i * ie.size, ie.size)) tm (zerosA (z.cells.toList.map .val) len) parts with
          | some cs => match gb hp p with
            | .free => match typedRow P e ie.size len cs with
              | some ⟨c, l⟩ => K ⟨.so p ie.size, [p], [(p, .rt c l e)], none⟩
              | none => K ⟨.sl p 0 len ie.size, [p], [(p, .row cs e (AV.onlys noneb cs))], none⟩
            | _ => none
          | none => none
        else none
      | none => none
    | none => none
  | _ => none

def flatT (e : TypeId) : Bool := match P.underlying e with
  | some d => !isRowD d
  | none => false

/-- The whole numbers, or the truths, that stand in cells. -/
def intsA : List AV → Option (IntKind × List Int)
  | [] => none
  | v :: l => match v with
    | .val (.int k x) => match l with
      | [] => some (k, [x])
      | _ => match intsA l with
        | some r => if r.1 = k then some (k, x :: r.2) else none
        | none => none
    | _ => none

def boolsA : List AV → Option (List Bool)
  | [] => some []
  | v :: l => match v with
    | .val (.bool x) => match boolsA l with
      | some r => some (x :: r)
      | none => none
    | _ => none

def strsA : List AV → Option (List ByteArray)
  | [] => some []
  | v :: l => match v with
    | .val (.string x) => match strsA l with
      | some r => some (x :: r)
      | none => none
    | _ => none

def isConstO : Operand → Bool
  | .const _ => true
  | _ => false

/-- The cell at a place that is not known ahead: of cells of one kind. -/
def anyCell (cs : List AV) (j : Nat) : Option AV := match cs with
  | .val (.int _ _) :: _ => match intsA cs with
    | some r => some (.val (.int r.1 (r.2.getD j 0)))
    | none => none
  | .val (.bool _) :: _ => match boolsA cs with
    | some r => some (.val (.bool (r.getD j false)))
    | none => none
  | .val (.string _) :: _ => match strsA cs with
    | some r => some (.val (.string (r.getD j ByteArray.empty)))
    | none => none
  | _ => none

def byteAt (s : ByteArray) (i : Int) : Int := ((s.data.toList.getD i.toNat 0).toNat : Int)

def indexK (t : TypeId) (io : Operand) (x ix : AV) : Option β := match ix with
  | .val (.int _ i) => match x with
    | .agg cs => match P.underlying t with
      | some (.array n e) => match P.info? e with
        | some ie => bif decide (0 ≤ i) && decide (i < n) then
            (bif isConstO io then (match partA P e (cs.drop (i.toNat * ie.size)) with
              | some v => bif decide (i.toNat * ie.size ≤ cs.length) then K ⟨v, [], [], none⟩ else none
              | none => none)
            else bif (ie.size == 1 && decide (cs.length = n)) && flatT P e then (match anyCell cs i.toNat with
              | some v => K ⟨v, [], [], none⟩
              | none => none) else none) else none
        | none => none
      | _ => none
    | .val (.string s) => match P.underlying t with
      | some .string => bif decide (0 ≤ i) && decide (i < (s.size : Int)) then K ⟨.val (.int .u8 (byteAt s i)), [], [], none⟩ else none
      | _ => none
    | _ => none
  | _ => none

def indexAddrK (t : TypeId) (x ix : AV) : Option β := match ix with
  | .val (.int _ i) => match P.underlying t with
    | some (.slice e) => match P.info? e with
      | some ie => match x with
        | .vec n sz g => bif (decide (0 ≤ i) && decide (i < (n : Int))) && sz == ie.size then K ⟨.cell (g i.toNat), [], [], none⟩ else none
        | .sl b off len sz => bif (decide (0 ≤ i) && decide (i < (len : Int))) && sz == ie.size then K ⟨.ptr b (off + i.toNat * sz), [], [], none⟩ else none
        | .vt c l => bif c.sz == ie.size && (decide (0 ≤ i) && decide (i < (l.length : Int))) then K ⟨.cell (c.enc (l.getD i.toNat c.df)), [], [], none⟩ else none
        | .so b sz => match gb hp b with
          | .rt c l _ => bif (c.sz == sz && sz == ie.size) && (decide (0 ≤ i) && decide (i < (l.length : Int))) then K ⟨.pe b i.toNat 0 sz, [b], [], none⟩ else none
          | _ => none
        | _ => none
      | none => none
    | some (.array n e) => match P.info? e with
      | some ie => bif decide (0 ≤ i) && decide (i < (n : Int)) then (match addA (i.toNat * ie.size) x with
          | some v => K ⟨v, [], [], none⟩
          | none => none) else none
      | none => none
    | _ => none
  | _ => none
end

section
variable {β : Type} {P : Program} {tm : List AV} {hp : List Blk} {K : ORes → Option β} {o : Oper} {r : β}

theorem map_pair (parts : Array (Nat × Operand)) (ev : Operand → Value) : (parts.map fun (i, x) => (i, ev x)) = (parts.toList.map fun p => (p.1, ev p.2)).toArray := by
  apply Array.toList_inj.1; simp

theorem build_ok {t : TypeId} {parts : Array (Nat × Operand)} (ho : o.op = .build t parts) (h : buildK P tm K t parts.toList = some r) : Ends P o tm hp K r := by
  unfold buildK at h
  split at h
  · rename_i cs hb
    refine ⟨_, h, .of_run fun C tm' hp' a hr hv _ => ?_⟩
    obtain ⟨rs, h1, h2⟩ := buildA_ok hb (ev := a.eval) (fun p hp => hv p.2 (by simp only [ho, Op.operands, List.mem_toArray, List.mem_map]; exact ⟨p, hp, rfl⟩)) C.w
    refine ⟨.agg rs.toArray, ?_, .agg rs h2.1 h2.2⟩
    unfold execOp
    simp only [ho]
    rw [map_pair, Sem.run_bind, h1]; rfl
  · cases h

theorem buildSlice_ok {p : Nat} {t : TypeId} {len : Nat} {parts : Array (Nat × Operand)} (ho : o.op = .buildSlice t len parts) (h : buildSliceK P tm hp K p t len parts.toList = some r) : Ends P o tm hp K r := by
  unfold buildSliceK at h
  split at h
  · rename_i e hu
    split at h
    · rename_i ie hie
      split at h
      · rename_i z hz
        cases hcond : ((decide (0 < ie.size) && decide (z.cells.size = ie.size)) && decide (len * ie.size ≤ 16777216)) with
        | false => rw [hcond] at h; cases h
        | true =>
          rw [hcond, cond_true] at h
          simp only [Bool.and_eq_true, decide_eq_true_eq] at hcond
          obtain ⟨⟨hpos, hzs⟩, hsmall⟩ := hcond
          split at h
          · rename_i cs hf
            split at h <;> try cases h
            rename_i hfree
            have main : ∀ (v : AV) (x : Blk), K ⟨v, [p], [(p, x)], none⟩ = some r → (∀ (C : Cx) (rs : List Value), rs.length = len * ie.size → Cells C true cs rs → BlkHolds C x rs.toArray e (len * ie.size)) →
                (∀ D : Cx, D.al p → D.nl p = false → D.ka p = len * ie.size → D.ln p = len * ie.size → VRel D true v (.slice (some ⟨D.mu p, 0, none⟩) len len)) → Ends P o tm hp K r := by
             intro v x h hx hvr
             refine ⟨_, h, ?_⟩
             intro w0 O C tm' hp' a hr ha KK Q hK
             have hf' : gb hp' p = .free := by rw [ha.foot p (by simp), hfree]
             have hv : ∀ q ∈ parts.toList, VRel C true (evA tm q.2) (a.eval q.2) := fun q hq => by
               rw [← ha.ops q.2 (by simp only [ho, Op.operands, List.mem_toArray, List.mem_map]; exact ⟨q, hq, rfl⟩)]; exact hr.ev _
             obtain ⟨rs, h1, h2⟩ := fillA_ok (place' := fun i => some (i * ie.size, ie.size)) (fun _ _ h => h) parts.toList _ cs ((List.replicate len z.cells.toList).flatten) hf hv (by rw [zerosA_eq]; exact Cells.vals C true _)
             have hzz := zeros_eq z.cells (by omega) len
             have hlc : rs.length = len * ie.size := by
               have key : ∀ (pl : Nat → Option (Nat × Nat)) (ps : List (Nat × Operand)) (a b : List AV), fillA pl tm a ps = some b → b.length = a.length := by
                 intro pl ps
                 induction ps with
                 | nil => intro a b h; simp only [fillA, Option.some.injEq] at h; rw [h]
                 | cons p ps ih =>
                   intro a b h
                   unfold fillA at h
                   split at h
                   · rename_i q vs hq hvs
                     cases hcd : (decide (vs.length = q.2) && decide (q.1 + vs.length ≤ a.length)) with
                     | false => rw [hcd] at h; cases h
                     | true =>
                       rw [hcd, cond_true] at h
                       simp only [Bool.and_eq_true, decide_eq_true_eq] at hcd
                       rw [ih _ _ h]
                       simp only [List.length_append, List.length_take, List.length_drop]
                       omega
                   · cases h
               rw [h2.1, key _ _ _ _ hf, zerosA_eq]
               simp [hzs]
             have hrun : (execOp a.eval o).run P C.w = .ok (.value (.slice (some ⟨C.w.heap.size, 0, none⟩) len len)) (C.w.alloc (.cells rs.toArray e (0, 0))) := by
               unfold execOp
               simp only [ho]
               rw [map_pair, Sem.run_bind]
               have hnb : ¬ len * ie.size > 2 ^ 24 := by omega
               have e1 : ∀ zero : Array Value, (len * ie.size ≠ 0 → zero = z.cells) → ((Array.range (len * ie.size)).map fun x => zero[x % zero.size]!) = ((List.replicate len z.cells.toList).flatten).toArray := by
                 intro zero hzero
                 apply Array.toList_inj.1
                 by_cases hl0 : len = 0
                 · subst hl0; simp
                 · rw [hzero (by have := Nat.mul_pos (Nat.pos_of_ne_zero hl0) hpos; omega), ← hzs, hzz]
               have this : (Instr.buildSlice t len (parts.toList.map fun p => (p.1, a.eval p.2)).toArray).run P C.w = .ok (.slice (some ⟨C.w.heap.size, 0, none⟩) len len) (C.w.alloc (.cells rs.toArray e (0, 0))) := by
                 simp only [Instr.buildSlice, Sem.run_bind, run_underlying hu, Result.andThen_ok, run_sizeOf hie]
                 rw [if_neg hnb]
                 by_cases h0 : len * ie.size = 0
                 · rw [if_pos h0]
                   simp only [Sem.run_bind, Sem.run_pure, Result.andThen_ok, e1 #[] (fun hne => absurd h0 hne), h1, newRow, newObj, Sem.run]
                   rfl
                 · rw [if_neg h0]
                   have hzv : (zeroValue e).run P C.w = .ok z C.w := by simp [zeroValue, typeInfo, hie, hz]
                   simp only [Sem.run_bind, hzv, Sem.run_pure, Result.andThen_ok, e1 z.cells (fun _ => rfl), h1, newRow, newObj, Sem.run]
                   rfl
               rw [this]; rfl
             unfold Oper.wp
             rw [hrun]
             have hr2 := hr.allocB p (len * ie.size) hf' x rs.toArray e (hx C rs hlc h2)
             refine hK _ _ (hr2.put o.dst (v := v) ?_)
             have e1 : (C.alloc p rs.toArray.size (len * ie.size) (.cells rs.toArray e (0, 0))).mu p = C.w.heap.size := by simp [Cx.alloc]
             rw [← e1]
             exact hvr _ (.inr rfl) (by simp [Cx.alloc]) (by simp [Cx.alloc, hlc]) (by simp [Cx.alloc])
            have hmaxl : len ≤ maxLen := by
              unfold maxLen
              have : len * 1 ≤ len * ie.size := Nat.mul_le_mul_left _ hpos
              omega
            split at h
            · rename_i c l htr
              unfold typedRow at htr
              split at htr
              · rename_i c' hc'
                cases hcd : ((c'.sz == ie.size && decide (cs.length = len * ie.size)) && AV.onlys noneb cs) with
                | false => rw [hcd] at htr; cases htr
                | true =>
                  rw [hcd, cond_true] at htr
                  simp only [Bool.and_eq_true, beq_iff_eq, decide_eq_true_eq] at hcd
                  obtain ⟨⟨hcs, hcl⟩, honly⟩ := hcd
                  split at htr
                  · rename_i l' hdec
                    simp only [Option.some.injEq, Sigma.mk.injEq] at htr
                    obtain ⟨h3, h4⟩ := htr
                    subst h3
                    have h4 := eq_of_heq h4
                    subst h4
                    obtain ⟨hl1, hl2⟩ := CT.decN_ok hdec
                    refine main _ _ h (fun C rs hrl hc => ⟨rfl, by rw [hl1, hcs], by simp [hl1, hcs, hrl], fun j hj i hi => ?_⟩) (fun D h1 h2 h3 h4 => .so h1 h2 hpos h4.symm h3.symm (Nat.le_refl _) hmaxl)
                    have := hl2 (hc.down honly) j (by omega) i hi
                    rw [vg_toArray]; exact this
                  · cases htr
              · cases htr
            · refine main _ _ h (fun C rs hrl hc => ?_) (fun D h1 h2 h3 h4 => .sl h1 (by rw [Nat.zero_add]; exact h3.symm) (Nat.le_refl _) hmaxl (by rw [Nat.zero_add, h4]; exact Nat.le_refl _))
              have hcl : Cells C (!AV.onlys noneb cs) cs rs := by
                cases hn : AV.onlys noneb cs with
                | true => exact hc.down hn
                | false => exact hc
              exact ⟨rfl, by rw [← hc.1, hrl], by rw [← hc.1]; simp, fun j hj => by rw [vg_toArray]; exact hcl.2 j⟩
          · cases h
      · cases h
    · cases h
  · cases h
end
end Go.Va
