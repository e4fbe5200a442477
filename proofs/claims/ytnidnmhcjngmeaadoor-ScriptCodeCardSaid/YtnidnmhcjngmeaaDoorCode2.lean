/-
  script.Parse of a word that is no command's name.
  Conditions: none.
-/
import Derived.Test.YtnidnmhcjngmeaaDoorCode1
import Derived.Deep.MidRow
import Derived.Laws.ResultCell
namespace Go.Proofs.YtnidnmhcjngmeaaDoor.Code
open Go.RowKit Go.Extern.Stop Go.Stop Go.Extern Go.Proofs.YtnidnmhcjngmeaaDoor.S Go.Proofs.YtnidnmhcjngmeaaDoorW.PrintWords Go.Proofs.YtnidnmhcjngmeaaDoorW.PrintLast Go.Proofs.YtnidnmhcjngmeaaDoorW.PrintMore
set_option linter.unusedVariables false
set_option linter.unusedSimpArgs false
attribute [local go_sem] max2_int min2_int max_two min_two max_three min_three max_four min_four
/-- A command of nothing. -/
def Z32 : Array Value := #[.int .i64 0, .int .i64 0, .int .i64 0, .int .i64 0, .int .i64 0, .int .i64 0, .int .i64 0, .int .i64 0, .int .i64 0, .int .i64 0, .int .u32 0, .bool false, .int .i64 0, .bool false, .string ⟨#[]⟩, .string ⟨#[]⟩, .int .u32 0, .int .u32 0, .int .i64 0, .int .i64 0, .int .u64 0, .bool false, .bool false, .bool false, .int .i64 0, .int .u32 0, .bool false, .int .u64 0, .int .i64 0, .int .i64 0, .int .i64 0, .int .i64 0]
theorem Z32_one : Z32.all (·.oneCell') = true := by kernel_rfl
theorem there_block {w : World} {b : Nat} {C : Array Value} {t : TypeId} (h : w.heap[b]? = some (.cells C t (0, 0))) : w.there b 0 C.size := fun j hj => ⟨by simp [World.cell?, h, hj], by simp [World.frozen?, h]⟩
def fly : ByteArray := ⟨#[102, 108, 121]⟩
def nms : List ByteArray := script_names.f.getD []
theorem nms_eq : script_names.f = some nms := rfl
theorem nms_len : nms.length = 21 := rfl
theorem nms_no (i : Int) (h0 : 0 ≤ i) (h1 : i < 21) : ((rdOf ByteArray.empty nms i).toList == [102, 108, 121]) = false := by
  obtain ⟨n, rfl⟩ := Int.eq_ofNat_of_zero_le h0
  have hn : n < 21 := by omega
  have : ∀ m : Fin 21, ((rdOf ByteArray.empty nms ((m.val : Nat) : Int)).toList == [102, 108, 121]) = false := by decide +kernel
  exact this ⟨n, hn⟩
set_option maxHeartbeats 8000000 in
set_option maxRecDepth 100000 in
theorem parsed_fly (g c : Nat) (w : World) (hl : w.cell? ⟨g, 0, none⟩ = some (.string ⟨#[102, 108, 121]⟩)) :
    Calls Tryd.prog 9 #[.slice (some ⟨g, 0, none⟩) 1 c] w fun e w' => ∃ F, e = .returned (.tuple #[.agg Z32, .pointer (some ⟨F, 0, none⟩)]) ∧ w'.cell? ⟨F, 0, none⟩ = some (.int .i64 151) ∧ w'.cell? ⟨F, 1, none⟩ = some (.int .i64 0) ∧ Below w.heap.size w w' := by
  have HL := Aside0.mk hl
  have hgl : g < w.heap.size := World.block_lt_of_cell? w ⟨g, 0, none⟩ hl
  clear hl
  go_enter Tryd.func9, Tryd.ntmps9
  go_wp2_with (go_at_call 15; (with_reducible refine (script_names.calls nms _ nms_eq).mono ?_); rintro e w1 ⟨v, rfl, ho, hb⟩; obtain ⟨A, c1, e1, hlen, hC⟩ := Kd.R_reads ho; subst e1; have HC := Aside0.mk hC; have HB := Aside0.mk hb; clear ho hb hC hlen)
  have HB1 := Aside0.mk (below_step (below_alloc (Below.refl w.heap.size w) _) HB.out)
  have hz : w1.heap[w.heap.size]? = _ := (HB.out.block w.heap.size (by simp)).trans (blk_new w _)
  go_loopg [10] 22 (fun kq v10 w' => ∃ i : Nat, v10 = .int .i64 (i : Int) ∧ Aside0 (i + kq = 22 ∧ i ≤ 21) ∧ w' = w1)
  case atStart => exact ⟨0, rfl, ⟨by omega⟩, rfl⟩
  case round =>
    obtain ⟨i, rfl, HI, rfl⟩ := hrel
    have hI := HI.out
    cases gk with
    | zero => omega
    | succ k1 =>
      by_cases hi : i < 21
      · have d1 : decide ((i : Int) < (nms.length : Int)) = true := decide_eq_true (by rw [nms_len]; omega)
        have p1 : 0 ≤ (i : Int) := by omega
        have q1 : (i : Int) < (nms.length : Int) := by rw [nms_len]; omega
        obtain ⟨ad, e1, hx⟩ := Kd.at_string HC.out (i : Int) p1 q1
        cases e1
        have hne := nms_no (i : Int) p1 (by omega)
        simp only [Int.toNat_natCast] at hx
        generalize rdOf ByteArray.empty nms (i : Int) = x at hx hne
        replace p1 := eq_true p1
        replace q1 := eq_true q1
        have hl1 : wr.cell? ⟨g, 0, none⟩ = some (.string ⟨#[102, 108, 121]⟩) := by
          have := HL.out
          simpa [World.cell?, HB1.out.block g hgl] using this
        cases hb : x.toList.isEmpty with
        | true =>
          go_wp2
          go_roundg k1
          case measure => omega
          case rel => exact ⟨i + 1, rfl, ⟨by have := HI.out; omega⟩, rfl⟩
        | false =>
          go_wp2
          go_roundg k1
          case measure => omega
          case rel => exact ⟨i + 1, rfl, ⟨by have := HI.out; omega⟩, rfl⟩
      · have hi2 : i = 21 := by omega
        subst hi2
        have d1 : decide (((21 : Nat) : Int) < (nms.length : Int)) = false := rfl
        clear hI hi HI
        have hz2 : (wr.alloc (.cells #[.int .i64 151, .int .i64 0] 47)).heap[w.heap.size]? = some (.cells Z32 39 (0, 0)) := by
          have hlt := (Array.getElem?_eq_some_iff.1 hz).1
          show (wr.heap.push _)[w.heap.size]? = _
          rw [Array.getElem?_push_lt hlt, ← Array.getElem?_eq_getElem hlt]
          exact hz
        have ht := there_block hz2
        go_wp2_with ((with_reducible refine gate_store (t := 39) (p := 2) rfl ?_); go_loud (refine wpList_store_mid rfl 39 (.tmp 2) (.tmp 60) rfl w.heap.size 0 Z32 rfl rfl ht (by kernel_rfl) Z32_one ?_))
        have hr := World.rangeAt_setCells_same (wr.alloc (.cells #[.int .i64 151, .int .i64 0] 47)) w.heap.size 0 Z32.toList (by simpa using ht)
        have hF : wr.heap.size ≠ w.heap.size := by have := (Array.getElem?_eq_some_iff.1 hz).1; omega
        have hf : ((wr.alloc (.cells #[.int .i64 151, .int .i64 0] 47)).setCells w.heap.size 0 Z32.toList).heap[wr.heap.size]? = some (.cells #[.int .i64 151, .int .i64 0] 47 (0, 0)) := (setCells_far _ _ _ hF).trans (blk_new wr _)
        have hbel : Below w.heap.size w ((wr.alloc (.cells #[.int .i64 151, .int .i64 0] 47)).setCells w.heap.size 0 Z32.toList) := by
          have h0 := below_alloc HB1.out (.cells #[.int .i64 151, .int .i64 0] 47)
          obtain ⟨s1, s2, s3, s4⟩ := setCells_same w.heap.size Z32.toList 0 (wr.alloc (.cells #[.int .i64 151, .int .i64 0] 47))
          refine ⟨s1.trans h0.os, s2.trans h0.tape, s3.trans h0.output, by rw [s4]; exact h0.size, fun k hk => ?_⟩
          rw [setCells_far _ _ k (by omega)]
          exact h0.block k hk
        generalize ((wr.alloc (.cells #[.int .i64 151, .int .i64 0] 47)).setCells w.heap.size 0 Z32.toList) = W9 at *
        try simp only [Exit.inBlock, Exit.then]
        refine bodyPost_ret (v := .tuple #[.agg Z32, .pointer (some ⟨wr.heap.size, 0, none⟩)]) ?_ rfl ⟨wr.heap.size, rfl, by simp [World.cell?, hf], by simp [World.cell?, hf], hbel⟩
        rw [results_cell_tmp rfl]
        have hl := run_loadVar_mid (P := Tryd.prog) W9 w.heap.size 0 39 Z32.toList _ hr Tryd.underlying39 rfl (by kernel_rfl)
        show ((loadVar 39 ⟨w.heap.size, 0, none⟩).run Tryd.prog W9).andThen _ = _
        rw [hl]
        rfl
end Go.Proofs.YtnidnmhcjngmeaaDoor.Code
