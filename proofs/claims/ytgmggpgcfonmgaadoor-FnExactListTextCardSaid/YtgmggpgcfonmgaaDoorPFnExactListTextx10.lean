-- PRINTED for this claim by a program of this session's repo over the kit's printer, with contracts of our own among the functions.
import Derived.Test.YtgmggpgcfonmgaaDoorPFnExactListTextx0
import Derived.Test.YtgmggpgcfonmgaaDoorPFnExactListTextx7
namespace Go.Proofs.YtgmggpgcfonmgaaDoor.PFnExactListText
open Go.RowKit Go.Proofs.YtgmggpgcfonmgaaDoorW.PrintWords Go.Proofs.YtgmggpgcfonmgaaDoorW.PrintLast Go.Proofs.YtgmggpgcfonmgaaDoorW.PrintMore
attribute [local go_sem] max2_int min2_int max_two min_two max_three min_three max_four min_four   -- for this text's walks alone
set_option linter.unusedVariables false
set_option linter.unusedSimpArgs false

/-! ### strconv_FormatInt: function 100, by a contract of our own -/
/-- The digits of a number in a base, the least behind. -/
def dgt (d : Nat) : UInt8 := Lib.digits36.data.toList.getD d 0
def fmtL (b u : Nat) : List UInt8 := if h : u < b ∨ b ≤ 1 then [dgt u] else fmtL b (u / b) ++ [dgt (u % b)]
termination_by u
decreasing_by exact Nat.div_lt_self (by omega) (by omega)
theorem fmtL_less (b u : Nat) (h : u < b) : fmtL b u = [dgt u] := by rw [fmtL, dif_pos (Or.inl h)]
theorem fmtL_more (b u : Nat) (hb : 2 ≤ b) (h : ¬ u < b) : fmtL b u = fmtL b (u / b) ++ [dgt (u % b)] := by rw [fmtL, dif_neg (by omega)]
def zeros65 : Array Value := #[Value.int .u8 0, Value.int .u8 0, Value.int .u8 0, Value.int .u8 0, Value.int .u8 0, Value.int .u8 0, Value.int .u8 0, Value.int .u8 0, Value.int .u8 0, Value.int .u8 0, Value.int .u8 0, Value.int .u8 0, Value.int .u8 0, Value.int .u8 0, Value.int .u8 0, Value.int .u8 0, Value.int .u8 0, Value.int .u8 0, Value.int .u8 0, Value.int .u8 0, Value.int .u8 0, Value.int .u8 0, Value.int .u8 0, Value.int .u8 0, Value.int .u8 0, Value.int .u8 0, Value.int .u8 0, Value.int .u8 0, Value.int .u8 0, Value.int .u8 0, Value.int .u8 0, Value.int .u8 0, Value.int .u8 0, Value.int .u8 0, Value.int .u8 0, Value.int .u8 0, Value.int .u8 0, Value.int .u8 0, Value.int .u8 0, Value.int .u8 0, Value.int .u8 0, Value.int .u8 0, Value.int .u8 0, Value.int .u8 0, Value.int .u8 0, Value.int .u8 0, Value.int .u8 0, Value.int .u8 0, Value.int .u8 0, Value.int .u8 0, Value.int .u8 0, Value.int .u8 0, Value.int .u8 0, Value.int .u8 0, Value.int .u8 0, Value.int .u8 0, Value.int .u8 0, Value.int .u8 0, Value.int .u8 0, Value.int .u8 0, Value.int .u8 0, Value.int .u8 0, Value.int .u8 0, Value.int .u8 0, Value.int .u8 0]
theorem zeros65_at (i : Nat) (h : i < 65) : zeros65[i]? = some (.int .u8 0) := by
  have e : zeros65 = Array.replicate 65 (.int .u8 0) := rfl
  rw [e, Array.getElem?_replicate, if_pos h]
theorem holds65 (w : World) (T : TypeId) : Go.Sort.Holds (fun (b : UInt8) => Value.int .u8 (b.toNat : Int)) (w.alloc (.cells zeros65 T)) w.heap.size 0 (Array.replicate 65 (0 : UInt8)) := fun j hj => by
  have hj' : j < 65 := by simpa using hj
  refine ⟨?_, World.frozen?_alloc_new _ _ _ _⟩
  rw [World.cell?_alloc_new, zeros65_at _ (by omega), getElem!_pos _ j hj]
  simp
theorem idx_digits36 (z : Int) (k : IntKind) (i : Nat) (hz : z = (i : Int)) (hi : i < 36) (w : World) :
    (Instr.index 9 (.string Lib.digits36) (.int k z)).run Tryd.prog w = .ok (.int .u8 ((dgt i).toNat : Int)) w := by
  subst hz
  have hs : Lib.digits36.size = 36 := rfl
  rw [run_index_string w 9 Lib.digits36 k _ Tryd.underlying9, dif_pos ⟨by omega, by rw [hs]; omega⟩]
  have e : ((i : Int)).toNat = i := by omega
  simp only [e]
  rw [Lib.getD_at Lib.digits36 i (by rw [hs]; exact hi)]
  rfl
theorem set_drop (dk : Array UInt8) (i : Nat) (x : UInt8) (h : i < dk.size) : (dk.setIfInBounds i x).toList.drop i = x :: dk.toList.drop (i + 1) := by
  have hl : i < (dk.toList.set i x).length := by rw [List.length_set, Array.length_toList]; exact h
  rw [Array.toList_setIfInBounds, List.drop_eq_getElem_cons hl, List.getElem_set_self, List.drop_set, if_pos (by omega)]
theorem bits_and_low (v : Nat) (S : Nat) (hv : v < 18446744073709551616) (hS : S < 63) : bits .and .u64 (v : Int) ((2 ^ S - 1 : Nat) : Int) = ((v % 2 ^ S : Nat) : Int) := by
  have h2 : (2 : Nat) ^ S ≤ 2 ^ 63 := Nat.pow_le_pow_right (by decide) (by omega)
  rw [bits_and_u64_nat v _ hv (by omega), Nat.and_two_pow_sub_one_eq_mod]
/-- The tables' cells, whatever the call lays. -/
theorem tz_cell {w W : World} (hL : Tabs w) (hb : Below w.heap.size w W) (i : Nat) (hi : i < 64) : W.cell? ⟨3, i, none⟩ = some (.int .u8 ((Lib.deBruijn64tab.map Int.ofNat).getD i 0)) :=
  (Tabs.below hL hb).1.2.cell (by kernel_rfl) i (by simp [Lib.deBruijn64tab]; omega)
set_option maxRecDepth 100000 in
set_option maxHeartbeats 4000000 in
theorem tz64_8 (W : World) (hc : W.cell? ⟨3, 7, none⟩ = some (.int .u8 3)) :
    Calls Tryd.prog 156 #[.int .u64 8] W fun e w' => e = .returned (.int .i64 3) ∧ w' = W := by
  have key : IntKind.u64.wrap (bits BinOp.and IntKind.u64 8 (IntKind.u64.wrap (-8)) * 285870213051353865) / 288230376151711744 = 7 := by decide
  have g1 : Tryd.prog.globals.findIdx? (·.name == "math/bits.deBruijn64tab") = some 3 := by kernel_rfl
  go_enter Tryd.func156, Tryd.ntmps156
  go_wp2_with (simp only [key])
  go_ret
  exact ⟨rfl, rfl⟩
set_option maxRecDepth 100000 in
theorem tz_8 (W : World) (hc : W.cell? ⟨3, 7, none⟩ = some (.int .u8 3)) :
    Calls Tryd.prog 150 #[.int .u64 8] W fun e w' => e = .returned (.int .i64 3) ∧ w' = W := by
  have c64 := tz64_8 W hc
  clear hc
  go_enter Tryd.func150, Tryd.ntmps150
  go_wp2_with (go_at_call 156; refine c64.mono ?_; rintro e w' ⟨rfl, rfl⟩)
  go_ret
  exact ⟨rfl, rfl⟩
theorem pow2_8 (W : World) : Calls Tryd.prog 149 #[.int .i64 8] W fun e w' => e = .returned (.bool true) ∧ w' = W := by
  have hb : bits .and .i64 8 7 = 0 := by decide
  go_enter Tryd.func149, Tryd.ntmps149
  go_wp2
  go_ret
  exact ⟨by first | rfl | simp [hb], rfl⟩
set_option maxRecDepth 100000 in
set_option maxHeartbeats 16000000 in
theorem formatBits8 (u : Nat) (hu : u < 9223372036854775808) (w : World) (hL : Tabs w) :
    Calls Tryd.prog 142 #[.slice none 0 0, .int .u64 u, .int .i64 8, .bool false, .bool false] w fun e w' => e = .returned (.tuple #[.slice none 0 0, .string ⟨(fmtL 8 u).toArray⟩]) ∧ Below w.heap.size w w' := by
  have hz := fun (W : World) (hb : Below w.heap.size w W) => tz_8 W (tz_cell hL hb 7 (by decide))
  have hp := fun W => pow2_8 W
  clear hL
  go_enter Tryd.func142, Tryd.ntmps142
  go_name_bytes_deep 44 PM hPM
  clear hPM
  go_name_bytes_deep 30 DG hDG
  have eDG : DG = Lib.digits36 := by rw [← hDG]; decide +kernel
  subst eDG
  clear hDG
  go_wp2_with (first | (go_at_call 149; refine (hp _).mono ?_; rintro e w' ⟨rfl, rfl⟩) | (go_at_call 150; refine (hz _ (by repeat (first | exact Below.refl _ _ | apply below_alloc | apply below_drew1 | apply pw_below_drewN))).mono ?_; rintro e w' ⟨rfl, rfl⟩))
  go_loopw [1, 13] (fun vu vi wr => ∃ (v i n : Nat) (dk : Array UInt8), vu = .int .u64 v ∧ vi = .int .i64 i ∧ wr = (Go.Sort.putRow (fun (b : UInt8) => Value.int .u8 (b.toNat : Int)) (w.alloc (.cells zeros65 138)) w.heap.size 0 dk).drewN n ∧ Hid (dk.size = 65 ∧ v < 2 ^ (i - 2) ∧ 2 ≤ i ∧ i ≤ 65 ∧ fmtL 8 u = fmtL 8 v ++ dk.toList.drop i)) (fun vu _ _ => (RowKit.intOf vu).toNat)
  case atStart => exact ⟨u, 65, 0, Array.replicate 65 0, rfl, rfl, (Go.Sort.putRow_self _ _ _ _ _ (holds65 w 138)).symm, by simp, by omega, by omega, by omega, by simp⟩
  case round =>
    obtain ⟨v, i, n, dk, rfl, rfl, hw0, HI⟩ := hrel
    rename World => W0
    clear hz hp
    obtain ⟨hs0, hv, hi2, hi65, hdec⟩ := HI.out
    have hH0 : Go.Sort.Holds (fun (b : UInt8) => Value.int .u8 (b.toNat : Int)) W0 w.heap.size 0 dk := by rw [hw0]; exact Go.Sort.holds_putRow _ _ _ _ (Array.replicate 65 (0 : UInt8)) dk (holds65 w 138) (by rw [hs0, Array.size_replicate])
    obtain ⟨m, rfl⟩ : ∃ m, i = m + 1 := ⟨i - 1, by omega⟩
    obtain ⟨g, hg⟩ : ∃ g : Int, g = (dk[m]!.toNat : Int) := ⟨_, rfl⟩
    have hc0 : W0.cell? ⟨w.heap.size, m, none⟩ = some (.int .u8 g) := by rw [hg, ← (hH0 m (by omega)).1, Nat.zero_add]
    have hf0 : W0.frozen? ⟨w.heap.size, m, none⟩ = false := by rw [← (hH0 m (by omega)).2, Nat.zero_add]
    have hv64 : v < 9223372036854775808 := Nat.lt_of_lt_of_le hv (Nat.le_trans (Nat.pow_le_pow_right (by decide) (show m + 1 - 2 ≤ 63 by omega)) (by decide))
    have hal : Tryd.prog.arrayLen 138 = 65 := by kernel_rfl
    have AW0 := Lib.hid hw0
    have AH := Lib.hid hH0
    clear hw0 hH0 hg
    by_cases hge : 8 ≤ v
    · obtain ⟨x, hx⟩ : ∃ x : Nat, x = v % 8 := ⟨_, rfl⟩
      obtain ⟨q, hq⟩ : ∃ q : Nat, q = v / 8 := ⟨_, rfl⟩
      have hand : bits .and .u64 (v : Int) 7 = (x : Int) := by rw [hx]; exact bits_and_low v 3 (by omega) (by decide)
      have hX : ∀ w, (Instr.index 9 (.string Lib.digits36) (.int .u64 (x : Int))).run Tryd.prog w = .ok (.int .u8 ((dgt x).toNat : Int)) w := idx_digits36 _ .u64 x rfl (by omega)
      have HN : Hid ((dk.setIfInBounds m (dgt x)).size = 65 ∧ q < 2 ^ (m - 2) ∧ 2 ≤ m ∧ m ≤ 65 ∧ fmtL 8 u = fmtL 8 q ++ (dk.setIfInBounds m (dgt x)).toList.drop m) := Lib.hid (by
        have h4 : 3 + 2 ≤ m := by
          have : ¬ m + 1 - 2 ≤ 3 := fun hle => by
            have h8 : v < 2 ^ 3 := Nat.lt_of_lt_of_le hv (Nat.pow_le_pow_right (by decide) hle)
            have h9 : (2 : Nat) ^ 3 = 8 := by decide
            omega
          omega
        refine ⟨by simpa using hs0, ?_, by omega, by omega, ?_⟩
        · rw [hq]
          apply Nat.div_lt_of_lt_mul
          have e : 8 * 2 ^ (m - 2) = 2 ^ (m - 2 + 3) := by rw [Nat.pow_add, Nat.mul_comm]
          rw [e]
          exact Nat.lt_of_lt_of_le hv (Nat.pow_le_pow_right (by decide) (by omega))
        · rw [set_drop dk m _ (by omega), hdec, fmtL_more 8 v (by decide) (by omega), ← hx, ← hq, List.append_assoc]
          rfl)
      have hqv : v / 8 = q := hq.symm
      have hqi : (v : Int) / 8 = (q : Int) := by omega
      have hlt : q < v := by omega
      clear hdec hv HI hx hq
      go_wp2
      refine ⟨⟨q, m, n, dk.setIfInBounds m (dgt x), rfl, rfl, ?_, HN⟩, by simp [RowKit.intOf]; omega⟩
      rw [AW0.out]
      have hst := Lib.store1_world (w.alloc (.cells zeros65 138)) w.heap.size 0 dk n m (dgt x) (by omega)
      rw [Nat.zero_add] at hst
      exact hst
    · have hX : ∀ w, (Instr.index 9 (.string Lib.digits36) (.int .u64 (v : Int))).run Tryd.prog w = .ok (.int .u8 ((dgt v).toNat : Int)) w := idx_digits36 _ .u64 v rfl (by omega)
      have hlast : fmtL 8 u = (dk.setIfInBounds m (dgt v)).toList.drop m := by
        rw [set_drop dk m _ (by omega), hdec, fmtL_less 8 v (by omega)]
        rfl
      have hlen : (fmtL 8 u).length = 65 - m := by
        rw [hlast, List.length_drop, Array.length_toList, Array.size_setIfInBounds, hs0]
      have hst : W0.setCell ⟨w.heap.size, m, none⟩ (.int .u8 ((dgt v).toNat : Int)) = (Go.Sort.putRow (fun (b : UInt8) => Value.int .u8 (b.toNat : Int)) (w.alloc (.cells zeros65 138)) w.heap.size 0 (dk.setIfInBounds m (dgt v))).drewN n := by
        have hst := Lib.store1_world (w.alloc (.cells zeros65 138)) w.heap.size 0 dk n m (dgt v) (by omega)
        rw [Nat.zero_add] at hst
        rw [AW0.out]
        exact hst
      have hH1 : Go.Sort.Holds (fun (b : UInt8) => Value.int .u8 (b.toNat : Int)) (W0.setCell ⟨w.heap.size, m, none⟩ (.int .u8 ((dgt v).toNat : Int))) w.heap.size 0 (dk.setIfInBounds m (dgt v)) := by rw [hst]; exact Go.Sort.holds_putRow _ _ _ _ (Array.replicate 65 (0 : UInt8)) _ (holds65 w 138) (by rw [Array.size_setIfInBounds, hs0, Array.size_replicate])
      have hsl : ∀ W, (Instr.sliceAt 138 (.pointer (some ⟨w.heap.size, 0, none⟩)) (some (.int .i64 (m : Int))) none none).run Tryd.prog W = .ok (.slice (some ⟨w.heap.size, m, none⟩) (65 - m) (65 - m)) W := fun W => by
        rw [run_sliceAt_array_l W 138 ⟨w.heap.size, 0, none⟩ (by kernel_rfl) .i64 (m : Int) (by omega) (by rw [hal]; omega)]
        rw [hal, show Tryd.prog.elem 138 = 5 by kernel_rfl]
        simp only [slicedAt, Int.toNat_natCast]
        rw [show (sizeOf 5).run Tryd.prog W = .ok 1 W from Tryd.sizeOf5 W]
        simp only [Result.andThen, if_neg (show ¬ 65 = m by omega), Lib.add_plain, Nat.mul_one, Nat.zero_add]
      have hcv : (convert 71 9 (.slice (some ⟨w.heap.size, m, none⟩) (65 - m) (65 - m))).run Tryd.prog (W0.setCell ⟨w.heap.size, m, none⟩ (.int .u8 ((dgt v).toNat : Int))) = .ok (.string ⟨(fmtL 8 u).toArray⟩) (W0.setCell ⟨w.heap.size, m, none⟩ (.int .u8 ((dgt v).toNat : Int))) := by
        have h := run_convert_bytes_back (P := Tryd.prog) (W0.setCell ⟨w.heap.size, m, none⟩ (.int .u8 ((dgt v).toNat : Int))) 71 9 5 ⟨w.heap.size, m, none⟩ (65 - m) (fmtL 8 u) Tryd.underlying71 Tryd.underlying5 Tryd.underlying9 (fun j hj => by
          rw [Lib.add_plain]
          have hj2 : m + j < (dk.setIfInBounds m (dgt v)).size := by rw [Array.size_setIfInBounds]; omega
          have h1 := (hH1 (m + j) hj2).1
          rw [Nat.zero_add] at h1
          have e : (dk.setIfInBounds m (dgt v))[m + j]! = (fmtL 8 u)[j] := by
            rw [getElem!_pos _ (m + j) hj2]
            simp only [hlast, List.getElem_drop, Array.getElem_toList]
          rw [h1, e])
        rw [hlen] at h
        exact h
      have hbel : Below w.heap.size w (W0.setCell ⟨w.heap.size, m, none⟩ (.int .u8 ((dgt v).toNat : Int))) := by
        rw [hst]
        obtain ⟨os, eo⟩ := Lib.fin_at w (.cells zeros65 138) (dk.setIfInBounds m (dgt v)) n 0
        rw [eo]
        exact below_grow_ _ _ _
      have HB := Aside0.mk hbel
      clear hbel hH1 hst hlen hlast hdec hv HI hs0 AW0
      go_wp2
      go_ret2
      exact ⟨rfl, HB.out⟩
set_option maxRecDepth 100000 in
set_option maxHeartbeats 4000000 in
theorem tz64_16 (W : World) (hc : W.cell? ⟨3, 15, none⟩ = some (.int .u8 4)) :
    Calls Tryd.prog 156 #[.int .u64 16] W fun e w' => e = .returned (.int .i64 4) ∧ w' = W := by
  have key : IntKind.u64.wrap (bits BinOp.and IntKind.u64 16 (IntKind.u64.wrap (-16)) * 285870213051353865) / 288230376151711744 = 15 := by decide
  have g1 : Tryd.prog.globals.findIdx? (·.name == "math/bits.deBruijn64tab") = some 3 := by kernel_rfl
  go_enter Tryd.func156, Tryd.ntmps156
  go_wp2_with (simp only [key])
  go_ret
  exact ⟨rfl, rfl⟩
set_option maxRecDepth 100000 in
theorem tz_16 (W : World) (hc : W.cell? ⟨3, 15, none⟩ = some (.int .u8 4)) :
    Calls Tryd.prog 150 #[.int .u64 16] W fun e w' => e = .returned (.int .i64 4) ∧ w' = W := by
  have c64 := tz64_16 W hc
  clear hc
  go_enter Tryd.func150, Tryd.ntmps150
  go_wp2_with (go_at_call 156; refine c64.mono ?_; rintro e w' ⟨rfl, rfl⟩)
  go_ret
  exact ⟨rfl, rfl⟩
theorem pow2_16 (W : World) : Calls Tryd.prog 149 #[.int .i64 16] W fun e w' => e = .returned (.bool true) ∧ w' = W := by
  have hb : bits .and .i64 16 15 = 0 := by decide
  go_enter Tryd.func149, Tryd.ntmps149
  go_wp2
  go_ret
  exact ⟨by first | rfl | simp [hb], rfl⟩
set_option maxRecDepth 100000 in
set_option maxHeartbeats 16000000 in
theorem formatBits16 (u : Nat) (hu : u < 9223372036854775808) (w : World) (hL : Tabs w) :
    Calls Tryd.prog 142 #[.slice none 0 0, .int .u64 u, .int .i64 16, .bool false, .bool false] w fun e w' => e = .returned (.tuple #[.slice none 0 0, .string ⟨(fmtL 16 u).toArray⟩]) ∧ Below w.heap.size w w' := by
  have hz := fun (W : World) (hb : Below w.heap.size w W) => tz_16 W (tz_cell hL hb 15 (by decide))
  have hp := fun W => pow2_16 W
  clear hL
  go_enter Tryd.func142, Tryd.ntmps142
  go_name_bytes_deep 44 PM hPM
  clear hPM
  go_name_bytes_deep 30 DG hDG
  have eDG : DG = Lib.digits36 := by rw [← hDG]; decide +kernel
  subst eDG
  clear hDG
  go_wp2_with (first | (go_at_call 149; refine (hp _).mono ?_; rintro e w' ⟨rfl, rfl⟩) | (go_at_call 150; refine (hz _ (by repeat (first | exact Below.refl _ _ | apply below_alloc | apply below_drew1 | apply pw_below_drewN))).mono ?_; rintro e w' ⟨rfl, rfl⟩))
  go_loopw [1, 13] (fun vu vi wr => ∃ (v i n : Nat) (dk : Array UInt8), vu = .int .u64 v ∧ vi = .int .i64 i ∧ wr = (Go.Sort.putRow (fun (b : UInt8) => Value.int .u8 (b.toNat : Int)) (w.alloc (.cells zeros65 138)) w.heap.size 0 dk).drewN n ∧ Hid (dk.size = 65 ∧ v < 2 ^ (i - 2) ∧ 2 ≤ i ∧ i ≤ 65 ∧ fmtL 16 u = fmtL 16 v ++ dk.toList.drop i)) (fun vu _ _ => (RowKit.intOf vu).toNat)
  case atStart => exact ⟨u, 65, 0, Array.replicate 65 0, rfl, rfl, (Go.Sort.putRow_self _ _ _ _ _ (holds65 w 138)).symm, by simp, by omega, by omega, by omega, by simp⟩
  case round =>
    obtain ⟨v, i, n, dk, rfl, rfl, hw0, HI⟩ := hrel
    rename World => W0
    clear hz hp
    obtain ⟨hs0, hv, hi2, hi65, hdec⟩ := HI.out
    have hH0 : Go.Sort.Holds (fun (b : UInt8) => Value.int .u8 (b.toNat : Int)) W0 w.heap.size 0 dk := by rw [hw0]; exact Go.Sort.holds_putRow _ _ _ _ (Array.replicate 65 (0 : UInt8)) dk (holds65 w 138) (by rw [hs0, Array.size_replicate])
    obtain ⟨m, rfl⟩ : ∃ m, i = m + 1 := ⟨i - 1, by omega⟩
    obtain ⟨g, hg⟩ : ∃ g : Int, g = (dk[m]!.toNat : Int) := ⟨_, rfl⟩
    have hc0 : W0.cell? ⟨w.heap.size, m, none⟩ = some (.int .u8 g) := by rw [hg, ← (hH0 m (by omega)).1, Nat.zero_add]
    have hf0 : W0.frozen? ⟨w.heap.size, m, none⟩ = false := by rw [← (hH0 m (by omega)).2, Nat.zero_add]
    have hv64 : v < 9223372036854775808 := Nat.lt_of_lt_of_le hv (Nat.le_trans (Nat.pow_le_pow_right (by decide) (show m + 1 - 2 ≤ 63 by omega)) (by decide))
    have hal : Tryd.prog.arrayLen 138 = 65 := by kernel_rfl
    have AW0 := Lib.hid hw0
    have AH := Lib.hid hH0
    clear hw0 hH0 hg
    by_cases hge : 16 ≤ v
    · obtain ⟨x, hx⟩ : ∃ x : Nat, x = v % 16 := ⟨_, rfl⟩
      obtain ⟨q, hq⟩ : ∃ q : Nat, q = v / 16 := ⟨_, rfl⟩
      have hand : bits .and .u64 (v : Int) 15 = (x : Int) := by rw [hx]; exact bits_and_low v 4 (by omega) (by decide)
      have hX : ∀ w, (Instr.index 9 (.string Lib.digits36) (.int .u64 (x : Int))).run Tryd.prog w = .ok (.int .u8 ((dgt x).toNat : Int)) w := idx_digits36 _ .u64 x rfl (by omega)
      have HN : Hid ((dk.setIfInBounds m (dgt x)).size = 65 ∧ q < 2 ^ (m - 2) ∧ 2 ≤ m ∧ m ≤ 65 ∧ fmtL 16 u = fmtL 16 q ++ (dk.setIfInBounds m (dgt x)).toList.drop m) := Lib.hid (by
        have h4 : 4 + 2 ≤ m := by
          have : ¬ m + 1 - 2 ≤ 4 := fun hle => by
            have h8 : v < 2 ^ 4 := Nat.lt_of_lt_of_le hv (Nat.pow_le_pow_right (by decide) hle)
            have h9 : (2 : Nat) ^ 4 = 16 := by decide
            omega
          omega
        refine ⟨by simpa using hs0, ?_, by omega, by omega, ?_⟩
        · rw [hq]
          apply Nat.div_lt_of_lt_mul
          have e : 16 * 2 ^ (m - 2) = 2 ^ (m - 2 + 4) := by rw [Nat.pow_add, Nat.mul_comm]
          rw [e]
          exact Nat.lt_of_lt_of_le hv (Nat.pow_le_pow_right (by decide) (by omega))
        · rw [set_drop dk m _ (by omega), hdec, fmtL_more 16 v (by decide) (by omega), ← hx, ← hq, List.append_assoc]
          rfl)
      have hqv : v / 16 = q := hq.symm
      have hqi : (v : Int) / 16 = (q : Int) := by omega
      have hlt : q < v := by omega
      clear hdec hv HI hx hq
      go_wp2
      refine ⟨⟨q, m, n, dk.setIfInBounds m (dgt x), rfl, rfl, ?_, HN⟩, by simp [RowKit.intOf]; omega⟩
      rw [AW0.out]
      have hst := Lib.store1_world (w.alloc (.cells zeros65 138)) w.heap.size 0 dk n m (dgt x) (by omega)
      rw [Nat.zero_add] at hst
      exact hst
    · have hX : ∀ w, (Instr.index 9 (.string Lib.digits36) (.int .u64 (v : Int))).run Tryd.prog w = .ok (.int .u8 ((dgt v).toNat : Int)) w := idx_digits36 _ .u64 v rfl (by omega)
      have hlast : fmtL 16 u = (dk.setIfInBounds m (dgt v)).toList.drop m := by
        rw [set_drop dk m _ (by omega), hdec, fmtL_less 16 v (by omega)]
        rfl
      have hlen : (fmtL 16 u).length = 65 - m := by
        rw [hlast, List.length_drop, Array.length_toList, Array.size_setIfInBounds, hs0]
      have hst : W0.setCell ⟨w.heap.size, m, none⟩ (.int .u8 ((dgt v).toNat : Int)) = (Go.Sort.putRow (fun (b : UInt8) => Value.int .u8 (b.toNat : Int)) (w.alloc (.cells zeros65 138)) w.heap.size 0 (dk.setIfInBounds m (dgt v))).drewN n := by
        have hst := Lib.store1_world (w.alloc (.cells zeros65 138)) w.heap.size 0 dk n m (dgt v) (by omega)
        rw [Nat.zero_add] at hst
        rw [AW0.out]
        exact hst
      have hH1 : Go.Sort.Holds (fun (b : UInt8) => Value.int .u8 (b.toNat : Int)) (W0.setCell ⟨w.heap.size, m, none⟩ (.int .u8 ((dgt v).toNat : Int))) w.heap.size 0 (dk.setIfInBounds m (dgt v)) := by rw [hst]; exact Go.Sort.holds_putRow _ _ _ _ (Array.replicate 65 (0 : UInt8)) _ (holds65 w 138) (by rw [Array.size_setIfInBounds, hs0, Array.size_replicate])
      have hsl : ∀ W, (Instr.sliceAt 138 (.pointer (some ⟨w.heap.size, 0, none⟩)) (some (.int .i64 (m : Int))) none none).run Tryd.prog W = .ok (.slice (some ⟨w.heap.size, m, none⟩) (65 - m) (65 - m)) W := fun W => by
        rw [run_sliceAt_array_l W 138 ⟨w.heap.size, 0, none⟩ (by kernel_rfl) .i64 (m : Int) (by omega) (by rw [hal]; omega)]
        rw [hal, show Tryd.prog.elem 138 = 5 by kernel_rfl]
        simp only [slicedAt, Int.toNat_natCast]
        rw [show (sizeOf 5).run Tryd.prog W = .ok 1 W from Tryd.sizeOf5 W]
        simp only [Result.andThen, if_neg (show ¬ 65 = m by omega), Lib.add_plain, Nat.mul_one, Nat.zero_add]
      have hcv : (convert 71 9 (.slice (some ⟨w.heap.size, m, none⟩) (65 - m) (65 - m))).run Tryd.prog (W0.setCell ⟨w.heap.size, m, none⟩ (.int .u8 ((dgt v).toNat : Int))) = .ok (.string ⟨(fmtL 16 u).toArray⟩) (W0.setCell ⟨w.heap.size, m, none⟩ (.int .u8 ((dgt v).toNat : Int))) := by
        have h := run_convert_bytes_back (P := Tryd.prog) (W0.setCell ⟨w.heap.size, m, none⟩ (.int .u8 ((dgt v).toNat : Int))) 71 9 5 ⟨w.heap.size, m, none⟩ (65 - m) (fmtL 16 u) Tryd.underlying71 Tryd.underlying5 Tryd.underlying9 (fun j hj => by
          rw [Lib.add_plain]
          have hj2 : m + j < (dk.setIfInBounds m (dgt v)).size := by rw [Array.size_setIfInBounds]; omega
          have h1 := (hH1 (m + j) hj2).1
          rw [Nat.zero_add] at h1
          have e : (dk.setIfInBounds m (dgt v))[m + j]! = (fmtL 16 u)[j] := by
            rw [getElem!_pos _ (m + j) hj2]
            simp only [hlast, List.getElem_drop, Array.getElem_toList]
          rw [h1, e])
        rw [hlen] at h
        exact h
      have hbel : Below w.heap.size w (W0.setCell ⟨w.heap.size, m, none⟩ (.int .u8 ((dgt v).toNat : Int))) := by
        rw [hst]
        obtain ⟨os, eo⟩ := Lib.fin_at w (.cells zeros65 138) (dk.setIfInBounds m (dgt v)) n 0
        rw [eo]
        exact below_grow_ _ _ _
      have HB := Aside0.mk hbel
      clear hbel hH1 hst hlen hlast hdec hv HI hs0 AW0
      go_wp2
      go_ret2
      exact ⟨rfl, HB.out⟩
set_option maxRecDepth 100000 in
theorem fmtIn (b : Nat) (hb : b = 8 ∨ b = 16) (u : Nat) (hu : u < 9223372036854775808) (w : World) (hL : Tabs w) :
    Calls Tryd.prog 125 #[.int .i64 u, .int .i64 b] w fun e w' => e = .returned (.string ⟨(fmtL b u).toArray⟩) ∧ Below w.heap.size w w' := by
  have hw : IntKind.u64.wrap (u : Int) = (u : Int) := by rw [IntKind.wrap_u64]; omega
  rcases hb with rfl | rfl
  · have hF := formatBits8 u hu
    have HT := Aside0.mk hL
    clear hL
    go_enter Tryd.func125, Tryd.ntmps125
    go_wp2_with (go_at_call 142; refine (hF _ (by first | exact HT.out | exact Tabs.below HT.out (by repeat (first | exact Below.refl _ _ | apply below_drew1 | apply pw_below_drewN)))).mono ?_; rintro e w' ⟨rfl, hb⟩)
    go_ret
    exact ⟨rfl, by first | exact hb | exact (by repeat (first | exact Below.refl _ _ | apply below_drew1 | apply pw_below_drewN) : Below w.heap.size w _).trans (hb.mono (by simp))⟩
  · have hF := formatBits16 u hu
    have HT := Aside0.mk hL
    clear hL
    go_enter Tryd.func125, Tryd.ntmps125
    go_wp2_with (go_at_call 142; refine (hF _ (by first | exact HT.out | exact Tabs.below HT.out (by repeat (first | exact Below.refl _ _ | apply below_drew1 | apply pw_below_drewN)))).mono ?_; rintro e w' ⟨rfl, hb⟩)
    go_ret
    exact ⟨rfl, by first | exact hb | exact (by repeat (first | exact Below.refl _ _ | apply below_drew1 | apply pw_below_drewN) : Below w.heap.size w _).trans (hb.mono (by simp))⟩
set_option maxRecDepth 100000 in
theorem fmtOut (b : Nat) (hb : b = 8 ∨ b = 16) (u : Nat) (hu : u < 9223372036854775808) (w : World) (hL : Tabs w) :
    Calls Tryd.prog 100 #[.int .i64 u, .int .i64 b] w fun e w' => e = .returned (.string ⟨(fmtL b u).toArray⟩) ∧ Below w.heap.size w w' := by
  have hF := fmtIn b hb u hu w hL
  clear hL
  go_enter Tryd.func100, Tryd.ntmps100
  go_wp2_with (go_at_call 125; refine hF.mono ?_; rintro e w' ⟨rfl, hb⟩)
  go_ret
  exact ⟨rfl, hb⟩
/-- Of the bases ten (every number), eight and sixteen (no number below zero): the text. -/
def strconv_FormatInt.f (a0 a1 : Int) : Option ByteArray :=
  if a1 = 10 ∧ -9223372036854775808 ≤ a0 ∧ a0 ≤ 9223372036854775807 then some ⟨(Lib.itoa a0).toArray⟩ else
  if (a1 = 8 ∨ a1 = 16) ∧ 0 ≤ a0 ∧ a0 ≤ 9223372036854775807 then some ⟨(fmtL a1.toNat a0.toNat).toArray⟩ else none
theorem strconv_FormatInt.calls (a0 a1 : Int) (r : ByteArray) (w : World) (h : strconv_FormatInt.f a0 a1 = some r) (hL : Tabs w) :
    Calls Tryd.prog 100 #[.int .i64 a0, .int .i64 a1] w fun e w' => e = .returned (.string r) ∧ Below w.heap.size w w' := by
  unfold strconv_FormatInt.f at h
  by_cases hb : a1 = 10 ∧ -9223372036854775808 ≤ a0 ∧ a0 ≤ 9223372036854775807
  · rw [if_pos hb] at h
    obtain rfl := Option.some.inj h
    obtain ⟨rfl, h0, h1⟩ := hb
    refine (Tryd.strconv_FormatInt_10 a0 h0 h1 w hL.1.1).mono fun e w' he => ?_
    obtain ⟨rfl, k, os, rfl⟩ := he
    exact ⟨rfl, below_grow_ _ _ _⟩
  · rw [if_neg hb] at h
    by_cases hc : (a1 = 8 ∨ a1 = 16) ∧ 0 ≤ a0 ∧ a0 ≤ 9223372036854775807
    · rw [if_pos hc] at h
      obtain rfl := Option.some.inj h
      obtain ⟨h1, h2, h3⟩ := hc
      obtain ⟨u, rfl⟩ := Int.eq_ofNat_of_zero_le h2
      obtain ⟨b, rfl⟩ : ∃ b : Nat, a1 = b := ⟨a1.toNat, by omega⟩
      rw [Int.toNat_natCast, Int.toNat_natCast]
      exact fmtOut b (by omega) u (by omega) w hL
    · rw [if_neg hc] at h
      cases h

/-! ### impl_inBase: function 81 -/
def impl_inBase.f (a0 : Int) (a1 : Int) : Option (ByteArray) := (strconv_FormatInt.f a0 a1).bind fun t219 => (some t219)
set_option maxHeartbeats 8000000 in
set_option maxRecDepth 100000 in
theorem impl_inBase.calls (a0 : Int) (a1 : Int) (r : ByteArray) (w : World) (h : impl_inBase.f a0 a1 = some r) (hL : Tabs w) :
    Calls Tryd.prog 81 #[.int .i64 a0, .int .i64 a1] w fun e w' => e = .returned (.string r) ∧ Below w.heap.size w w' := by
  have HL := Aside0.mk hL
  clear hL
  have HB := Aside0.mk (Below.refl w.heap.size w)
  have H : ((strconv_FormatInt.f a0 a1).bind fun t219 => (some t219)) = some r := h
  clear h
  replace H := Option.bind_eq_some_iff.mp H
  obtain ⟨t219, A30, H⟩ := H
  replace H : (some t219) = some r := H
  have A3 := Aside0.mk A30
  clear A30
  obtain rfl := Option.some.inj H
  go_enter Tryd.func81, Tryd.ntmps81
  go_wp2_with (first | ((with_reducible refine gate_callee (f := 100) rfl ?_); refine goesL_ (some 7) rfl rfl Tryd.func100 (by kernel_rfl) rfl #[.int .i64 a0, .int .i64 a1] rfl (by (try simp only [List.map_toArray, List.map_cons, List.map_nil]); first | done | rfl | (simp only [List.length_drop, List.length_take]; rfl)) ?_; (with_reducible refine (strconv_FormatInt.calls a0 a1 t219 _ A3.out (Tabs.below HL.out (by repeat (first | (with_reducible first | exact HB.out | apply below_alloc | apply pw_below_drewN | apply below_drew1) | exact HB.out)))).mono ?_); rintro e w4 ⟨rfl, hb⟩; refine ⟨_, rfl, ?_⟩; have n0_ := Aside0.mk (below_step (by repeat (first | (with_reducible first | exact HB.out | apply below_alloc | apply pw_below_drewN | apply below_drew1) | exact HB.out)) hb); clear HB; have HB := n0_; clear n0_; (try clear hb); (try clear hb2); (try clear hk); (try clear hi)))
  go_ret
  exact ⟨by first | rfl | (simp [errW_none, errW_some] <;> rfl) | (simp [*, errW_none, errW_some] <;> rfl) | (simp only [decide_eq_true_eq] at *; simp [*, bt]; done), by repeat (first | (with_reducible first | exact HB.out | apply below_alloc | apply pw_below_drewN | apply below_drew1) | exact HB.out)⟩

/-! ### impl_isField: function 79 -/
def impl_isField.f (a0 : Int) (a1 : Int) (a2 : Int) : Option (Bool) := (impl_within.f a0 0 9007199254740991).bind fun t220 => (if t220 = true then ((impl_within.f a1 1 20).bind fun t221 => (if t221 = true then ((impl_inBase.f a0 a2).bind fun t222 => (some (decide ((t222.size : Int) ≤ a1)))) else (some false))) else (some false))
set_option maxHeartbeats 8000000 in
set_option maxRecDepth 100000 in
theorem impl_isField.calls (a0 : Int) (a1 : Int) (a2 : Int) (r : Bool) (w : World) (h : impl_isField.f a0 a1 a2 = some r) (hL : Tabs w) :
    Calls Tryd.prog 79 #[.int .i64 a0, .int .i64 a1, .int .i64 a2] w fun e w' => e = .returned (.bool r) ∧ Below w.heap.size w w' := by
  have HL := Aside0.mk hL
  clear hL
  have HB := Aside0.mk (Below.refl w.heap.size w)
  have H : ((impl_within.f a0 0 9007199254740991).bind fun t220 => (if t220 = true then ((impl_within.f a1 1 20).bind fun t221 => (if t221 = true then ((impl_inBase.f a0 a2).bind fun t222 => (some (decide ((t222.size : Int) ≤ a1)))) else (some false))) else (some false))) = some r := h
  clear h
  replace H := Option.bind_eq_some_iff.mp H
  obtain ⟨t220, A40, H⟩ := H
  replace H : (if t220 = true then ((impl_within.f a1 1 20).bind fun t221 => (if t221 = true then ((impl_inBase.f a0 a2).bind fun t222 => (some (decide ((t222.size : Int) ≤ a1)))) else (some false))) else (some false)) = some r := H
  have A4 := Aside0.mk A40
  clear A40
  by_cases c5 : t220 = true
  · subst c5
    have H1 : ((impl_within.f a1 1 20).bind fun t221 => (if t221 = true then ((impl_inBase.f a0 a2).bind fun t222 => (some (decide ((t222.size : Int) ≤ a1)))) else (some false))) = some r := by rw [if_pos rfl] at H; exact H
    clear H
    have H := H1
    clear H1
    replace H := Option.bind_eq_some_iff.mp H
    obtain ⟨t221, A60, H⟩ := H
    replace H : (if t221 = true then ((impl_inBase.f a0 a2).bind fun t222 => (some (decide ((t222.size : Int) ≤ a1)))) else (some false)) = some r := H
    have A6 := Aside0.mk A60
    clear A60
    by_cases c7 : t221 = true
    · subst c7
      have H1 : ((impl_inBase.f a0 a2).bind fun t222 => (some (decide ((t222.size : Int) ≤ a1)))) = some r := by rw [if_pos rfl] at H; exact H
      clear H
      have H := H1
      clear H1
      replace H := Option.bind_eq_some_iff.mp H
      obtain ⟨t222, A80, H⟩ := H
      replace H : (some (decide ((t222.size : Int) ≤ a1))) = some r := H
      have A8 := Aside0.mk A80
      clear A80
      obtain rfl := Option.some.inj H
      go_enter Tryd.func79, Tryd.ntmps79
      go_wp2_with (first | ((with_reducible refine gate_callee (f := 55) rfl ?_); refine goesL_ (some 8) rfl rfl Tryd.func55 (by kernel_rfl) rfl #[.int .i64 a0, .int .i64 0, .int .i64 9007199254740991] rfl (by (try simp only [List.map_toArray, List.map_cons, List.map_nil]); first | done | rfl | (simp only [List.length_drop, List.length_take]; rfl)) ?_; (with_reducible refine (impl_within.calls a0 0 9007199254740991 true _ A4.out).mono ?_); rintro e w' ⟨rfl, ⟨nd, rfl⟩⟩; refine ⟨_, rfl, ?_⟩) | (go_at_call 55; (with_reducible refine (impl_within.calls a1 1 20 true _ A6.out).mono ?_); rintro e w' ⟨rfl, ⟨nd, rfl⟩⟩) | (go_at_call 81; (with_reducible refine (impl_inBase.calls a0 a2 t222 _ A8.out (Tabs.below HL.out (by repeat (first | (with_reducible first | exact HB.out | apply below_alloc | apply pw_below_drewN | apply below_drew1) | exact HB.out)))).mono ?_); rintro e w9 ⟨rfl, hb⟩; have n0_ := Aside0.mk (below_step (by repeat (first | (with_reducible first | exact HB.out | apply below_alloc | apply pw_below_drewN | apply below_drew1) | exact HB.out)) hb); clear HB; have HB := n0_; clear n0_; (try clear hb); (try clear hb2); (try clear hk); (try clear hi)))
      go_ret
      exact ⟨by first | rfl | (simp [errW_none, errW_some] <;> rfl) | (simp [*, errW_none, errW_some] <;> rfl) | (simp only [decide_eq_true_eq] at *; simp [*, bt]; done), by repeat (first | (with_reducible first | exact HB.out | apply below_alloc | apply pw_below_drewN | apply below_drew1) | exact HB.out)⟩
    · replace c7 := Bool.eq_false_iff.mpr c7
      subst c7
      have H1 : (some false) = some r := by rw [if_neg (show ¬ (false = true) by decide)] at H; exact H
      clear H
      have H := H1
      clear H1
      obtain rfl := Option.some.inj H
      go_enter Tryd.func79, Tryd.ntmps79
      go_wp2_with (first | ((with_reducible refine gate_callee (f := 55) rfl ?_); refine goesL_ (some 8) rfl rfl Tryd.func55 (by kernel_rfl) rfl #[.int .i64 a0, .int .i64 0, .int .i64 9007199254740991] rfl (by (try simp only [List.map_toArray, List.map_cons, List.map_nil]); first | done | rfl | (simp only [List.length_drop, List.length_take]; rfl)) ?_; (with_reducible refine (impl_within.calls a0 0 9007199254740991 true _ A4.out).mono ?_); rintro e w' ⟨rfl, ⟨nd, rfl⟩⟩; refine ⟨_, rfl, ?_⟩) | (go_at_call 55; (with_reducible refine (impl_within.calls a1 1 20 false _ A6.out).mono ?_); rintro e w' ⟨rfl, ⟨nd, rfl⟩⟩))
      go_ret
      exact ⟨by first | rfl | (simp [errW_none, errW_some] <;> rfl) | (simp [*, errW_none, errW_some] <;> rfl) | (simp only [decide_eq_true_eq] at *; simp [*, bt]; done), by repeat (first | (with_reducible first | exact HB.out | apply below_alloc | apply pw_below_drewN | apply below_drew1) | exact HB.out)⟩
  · replace c5 := Bool.eq_false_iff.mpr c5
    subst c5
    have H1 : (some false) = some r := by rw [if_neg (show ¬ (false = true) by decide)] at H; exact H
    clear H
    have H := H1
    clear H1
    obtain rfl := Option.some.inj H
    go_enter Tryd.func79, Tryd.ntmps79
    go_wp2_with (first | ((with_reducible refine gate_callee (f := 55) rfl ?_); refine goesL_ (some 8) rfl rfl Tryd.func55 (by kernel_rfl) rfl #[.int .i64 a0, .int .i64 0, .int .i64 9007199254740991] rfl (by (try simp only [List.map_toArray, List.map_cons, List.map_nil]); first | done | rfl | (simp only [List.length_drop, List.length_take]; rfl)) ?_; (with_reducible refine (impl_within.calls a0 0 9007199254740991 false _ A4.out).mono ?_); rintro e w' ⟨rfl, ⟨nd, rfl⟩⟩; refine ⟨_, rfl, ?_⟩))
    go_ret
    exact ⟨by first | rfl | (simp [errW_none, errW_some] <;> rfl) | (simp [*, errW_none, errW_some] <;> rfl) | (simp only [decide_eq_true_eq] at *; simp [*, bt]; done), by repeat (first | (with_reducible first | exact HB.out | apply below_alloc | apply pw_below_drewN | apply below_drew1) | exact HB.out)⟩

/-! ### strings_Repeat: function 89, by a contract of our own -/
/-- Of a result that is no longer than 2^47 bytes. -/
def strings_Repeat.f (a0 : ByteArray) (a1 : Int) : Option ByteArray :=
  if 0 ≤ a1 ∧ a1 ≤ 9223372036854775807 ∧ a0.size * a1.toNat ≤ 140737488355328 then some ⟨(Lib.repeatL a0.data.toList a1.toNat).toArray⟩ else none
theorem strings_Repeat.calls (a0 : ByteArray) (a1 : Int) (r : ByteArray) (w : World) (h : strings_Repeat.f a0 a1 = some r) :
    Calls Tryd.prog 89 #[.string a0, .int .i64 a1] w fun e w' => e = .returned (.string r) ∧ Below w.heap.size w w' := by
  unfold strings_Repeat.f at h
  by_cases hb : 0 ≤ a1 ∧ a1 ≤ 9223372036854775807 ∧ a0.size * a1.toNat ≤ 140737488355328
  · rw [if_pos hb] at h
    obtain rfl := Option.some.inj h
    obtain ⟨n, rfl⟩ := Int.eq_ofNat_of_zero_le hb.1
    exact Tryd.strings_Repeat a0 n w (by omega) hb.2.2
  · rw [if_neg hb] at h
    cases h

/-! ### impl_zeros: function 80 -/
def impl_zeros.f (a0 : ByteArray) (a1 : Int) : Option (ByteArray) := (strings_Repeat.f (⟨#[48]⟩ : ByteArray) (wrap64 (a1 - (a0.size : Int)))).bind fun t223 => (if t223.size + a0.size ≤ 9223372036854775807 then (some (t223 ++ a0)) else (none))
set_option maxHeartbeats 8000000 in
set_option maxRecDepth 100000 in
theorem impl_zeros.calls (a0 : ByteArray) (a1 : Int) (r : ByteArray) (w : World) (h : impl_zeros.f a0 a1 = some r) :
    Calls Tryd.prog 80 #[.string a0, .int .i64 a1] w fun e w' => e = .returned (.string r) ∧ Below w.heap.size w w' := by
  have HB := Aside0.mk (Below.refl w.heap.size w)
  have H : ((strings_Repeat.f (⟨#[48]⟩ : ByteArray) (wrap64 (a1 - (a0.size : Int)))).bind fun t223 => (if t223.size + a0.size ≤ 9223372036854775807 then (some (t223 ++ a0)) else (none))) = some r := h
  clear h
  replace H := Option.bind_eq_some_iff.mp H
  obtain ⟨t223, A30, H⟩ := H
  replace H : (if t223.size + a0.size ≤ 9223372036854775807 then (some (t223 ++ a0)) else (none)) = some r := H
  have A3 := Aside0.mk A30
  clear A30
  by_cases c4 : t223.size + a0.size ≤ 9223372036854775807
  · rw [if_pos c4] at H
    have c4b0 := eq_true c4
    have c4b1 : decide (t223.size + a0.size ≤ 9223372036854775807) = true := decide_eq_true c4
    try have c4b2 : (9223372036854775807 < t223.size + a0.size) = False := eq_false (Nat.not_lt.2 c4)
    obtain rfl := Option.some.inj H
    go_enter Tryd.func80, Tryd.ntmps80
    go_wp2_with (first | ((with_reducible refine gate_callee (f := 89) rfl ?_); refine goesL_ (some 9) rfl rfl Tryd.func89 (by kernel_rfl) rfl #[.string (⟨#[48]⟩ : ByteArray), .int .i64 (wrap64 (a1 - (a0.size : Int)))] rfl (by (try simp only [List.map_toArray, List.map_cons, List.map_nil]); first | done | rfl | (simp only [List.length_drop, List.length_take]; rfl)) ?_; (with_reducible refine (strings_Repeat.calls (⟨#[48]⟩ : ByteArray) (wrap64 (a1 - (a0.size : Int))) t223 _ A3.out).mono ?_); rintro e w5 ⟨rfl, hb⟩; refine ⟨_, rfl, ?_⟩; have n0_ := Aside0.mk (below_step (by repeat (first | (with_reducible first | exact HB.out | apply below_alloc | apply pw_below_drewN | apply below_drew1) | exact HB.out)) hb); clear HB; have HB := n0_; clear n0_; (try clear hb); (try clear hb2); (try clear hk); (try clear hi)))
    go_ret
    exact ⟨by first | rfl | (simp [errW_none, errW_some] <;> rfl) | (simp [*, errW_none, errW_some] <;> rfl) | (simp only [decide_eq_true_eq] at *; simp [*, bt]; done), by repeat (first | (with_reducible first | exact HB.out | apply below_alloc | apply pw_below_drewN | apply below_drew1) | exact HB.out)⟩
  · rw [if_neg c4] at H
    exact absurd H (by simp)

/-! ### impl_PutOct: function 46 -/
def impl_PutOct.f (a0 : Int) (a1 : Int) : Option (ByteArray × Bool) := (impl_isField.f a0 a1 8).bind fun t224 => (if t224 = true then ((impl_inBase.f a0 8).bind fun t225 => ((impl_zeros.f t225 a1).bind fun t226 => (some (t226, true)))) else (some ((⟨#[]⟩ : ByteArray), false)))
set_option maxHeartbeats 8000000 in
set_option maxRecDepth 100000 in
theorem impl_PutOct.calls (a0 : Int) (a1 : Int) (r1 : ByteArray) (r2 : Bool) (w : World) (h : impl_PutOct.f a0 a1 = some (r1, r2)) (hL : Tabs w) :
    Calls Tryd.prog 46 #[.int .i64 a0, .int .i64 a1] w fun e w' => e = .returned (.tuple #[.string r1, .bool r2]) ∧ Below w.heap.size w w' := by
  have HL := Aside0.mk hL
  clear hL
  have HB := Aside0.mk (Below.refl w.heap.size w)
  have H : ((impl_isField.f a0 a1 8).bind fun t224 => (if t224 = true then ((impl_inBase.f a0 8).bind fun t225 => ((impl_zeros.f t225 a1).bind fun t226 => (some (t226, true)))) else (some ((⟨#[]⟩ : ByteArray), false)))) = some (r1, r2) := h
  clear h
  replace H := Option.bind_eq_some_iff.mp H
  obtain ⟨t224, A30, H⟩ := H
  replace H : (if t224 = true then ((impl_inBase.f a0 8).bind fun t225 => ((impl_zeros.f t225 a1).bind fun t226 => (some (t226, true)))) else (some ((⟨#[]⟩ : ByteArray), false))) = some (r1, r2) := H
  have A3 := Aside0.mk A30
  clear A30
  by_cases c4 : t224 = true
  · subst c4
    have H1 : ((impl_inBase.f a0 8).bind fun t225 => ((impl_zeros.f t225 a1).bind fun t226 => (some (t226, true)))) = some (r1, r2) := by rw [if_pos rfl] at H; exact H
    clear H
    have H := H1
    clear H1
    replace H := Option.bind_eq_some_iff.mp H
    obtain ⟨t225, A50, H⟩ := H
    replace H : ((impl_zeros.f t225 a1).bind fun t226 => (some (t226, true))) = some (r1, r2) := H
    have A5 := Aside0.mk A50
    clear A50
    replace H := Option.bind_eq_some_iff.mp H
    obtain ⟨t226, A60, H⟩ := H
    replace H : (some (t226, true)) = some (r1, r2) := H
    have A6 := Aside0.mk A60
    clear A60
    simp only [Option.some.injEq, Prod.mk.injEq] at H
    obtain ⟨rfl, rfl⟩ := H
    go_enter Tryd.func46, Tryd.ntmps46
    go_wp2_with (first | ((with_reducible refine gate_callee (f := 79) rfl ?_); refine goesL_ (some 8) rfl rfl Tryd.func79 (by kernel_rfl) rfl #[.int .i64 a0, .int .i64 a1, .int .i64 8] rfl (by (try simp only [List.map_toArray, List.map_cons, List.map_nil]); first | done | rfl | (simp only [List.length_drop, List.length_take]; rfl)) ?_; (with_reducible refine (impl_isField.calls a0 a1 8 true _ A3.out (Tabs.below HL.out (by repeat (first | (with_reducible first | exact HB.out | apply below_alloc | apply pw_below_drewN | apply below_drew1) | exact HB.out)))).mono ?_); rintro e w7 ⟨rfl, hb⟩; refine ⟨_, rfl, ?_⟩; have n0_ := Aside0.mk (below_step (by repeat (first | (with_reducible first | exact HB.out | apply below_alloc | apply pw_below_drewN | apply below_drew1) | exact HB.out)) hb); clear HB; have HB := n0_; clear n0_; (try clear hb); (try clear hb2); (try clear hk); (try clear hi)) | ((with_reducible refine gate_callee (f := 81) rfl ?_); refine goesL_ (some 11) rfl rfl Tryd.func81 (by kernel_rfl) rfl #[.int .i64 a0, .int .i64 8] rfl (by (try simp only [List.map_toArray, List.map_cons, List.map_nil]); first | done | rfl | (simp only [List.length_drop, List.length_take]; rfl)) ?_; (with_reducible refine (impl_inBase.calls a0 8 t225 _ A5.out (Tabs.below HL.out (by repeat (first | (with_reducible first | exact HB.out | apply below_alloc | apply pw_below_drewN | apply below_drew1) | exact HB.out)))).mono ?_); rintro e w8 ⟨rfl, hb⟩; refine ⟨_, rfl, ?_⟩; have n0_ := Aside0.mk (below_step (by repeat (first | (with_reducible first | exact HB.out | apply below_alloc | apply pw_below_drewN | apply below_drew1) | exact HB.out)) hb); clear HB; have HB := n0_; clear n0_; (try clear hb); (try clear hb2); (try clear hk); (try clear hi)) | ((with_reducible refine gate_callee (f := 80) rfl ?_); refine goesL_ (some 13) rfl rfl Tryd.func80 (by kernel_rfl) rfl #[.string t225, .int .i64 a1] rfl (by (try simp only [List.map_toArray, List.map_cons, List.map_nil]); first | done | rfl | (simp only [List.length_drop, List.length_take]; rfl)) ?_; (with_reducible refine (impl_zeros.calls t225 a1 t226 _ A6.out).mono ?_); rintro e w9 ⟨rfl, hb⟩; refine ⟨_, rfl, ?_⟩; have n0_ := Aside0.mk (below_step (by repeat (first | (with_reducible first | exact HB.out | apply below_alloc | apply pw_below_drewN | apply below_drew1) | exact HB.out)) hb); clear HB; have HB := n0_; clear n0_; (try clear hb); (try clear hb2); (try clear hk); (try clear hi)))
    go_ret2
    exact ⟨by first | rfl | (simp [errW_none, errW_some] <;> rfl) | (simp [*, errW_none, errW_some] <;> rfl) | (simp only [decide_eq_true_eq] at *; simp [*, bt]; done), by repeat (first | (with_reducible first | exact HB.out | apply below_alloc | apply pw_below_drewN | apply below_drew1) | exact HB.out)⟩
  · replace c4 := Bool.eq_false_iff.mpr c4
    subst c4
    have H1 : (some ((⟨#[]⟩ : ByteArray), false)) = some (r1, r2) := by rw [if_neg (show ¬ (false = true) by decide)] at H; exact H
    clear H
    have H := H1
    clear H1
    simp only [Option.some.injEq, Prod.mk.injEq] at H
    obtain ⟨rfl, rfl⟩ := H
    go_enter Tryd.func46, Tryd.ntmps46
    go_wp2_with (first | ((with_reducible refine gate_callee (f := 79) rfl ?_); refine goesL_ (some 8) rfl rfl Tryd.func79 (by kernel_rfl) rfl #[.int .i64 a0, .int .i64 a1, .int .i64 8] rfl (by (try simp only [List.map_toArray, List.map_cons, List.map_nil]); first | done | rfl | (simp only [List.length_drop, List.length_take]; rfl)) ?_; (with_reducible refine (impl_isField.calls a0 a1 8 false _ A3.out (Tabs.below HL.out (by repeat (first | (with_reducible first | exact HB.out | apply below_alloc | apply pw_below_drewN | apply below_drew1) | exact HB.out)))).mono ?_); rintro e w10 ⟨rfl, hb⟩; refine ⟨_, rfl, ?_⟩; have n0_ := Aside0.mk (below_step (by repeat (first | (with_reducible first | exact HB.out | apply below_alloc | apply pw_below_drewN | apply below_drew1) | exact HB.out)) hb); clear HB; have HB := n0_; clear n0_; (try clear hb); (try clear hb2); (try clear hk); (try clear hi)))
    go_ret2
    exact ⟨by first | rfl | (simp [errW_none, errW_some] <;> rfl) | (simp [*, errW_none, errW_some] <;> rfl) | (simp only [decide_eq_true_eq] at *; simp [*, bt]; done), by repeat (first | (with_reducible first | exact HB.out | apply below_alloc | apply pw_below_drewN | apply below_drew1) | exact HB.out)⟩

/-! ### strconv_Itoa: function 82, by a contract of our own -/
/-- The decimal text. -/
def strconv_Itoa.f (a0 : Int) : Option ByteArray := if -9223372036854775808 ≤ a0 ∧ a0 ≤ 9223372036854775807 then some ⟨(Lib.itoa a0).toArray⟩ else none
theorem strconv_Itoa.calls (a0 : Int) (r : ByteArray) (w : World) (h : strconv_Itoa.f a0 = some r) (hL : Tabs w) :
    Calls Tryd.prog 82 #[.int .i64 a0] w fun e w' => e = .returned (.string r) ∧ Below w.heap.size w w' := by
  unfold strconv_Itoa.f at h
  by_cases hb : -9223372036854775808 ≤ a0 ∧ a0 ≤ 9223372036854775807
  · rw [if_pos hb] at h
    obtain rfl := Option.some.inj h
    refine (Tryd.strconv_Itoa a0 hb.1 hb.2 w hL.1.1).mono fun e w' he => ?_
    obtain ⟨rfl, k, os, rfl⟩ := he
    exact ⟨rfl, below_grow_ _ _ _⟩
  · rw [if_neg hb] at h
    cases h

/-! ### impl_DecText: function 47 -/
def impl_DecText.f (a0 : Int) : Option (ByteArray) := (strconv_Itoa.f a0).bind fun t227 => (some t227)
set_option maxHeartbeats 8000000 in
set_option maxRecDepth 100000 in
theorem impl_DecText.calls (a0 : Int) (r : ByteArray) (w : World) (h : impl_DecText.f a0 = some r) (hL : Tabs w) :
    Calls Tryd.prog 47 #[.int .i64 a0] w fun e w' => e = .returned (.string r) ∧ Below w.heap.size w w' := by
  have HL := Aside0.mk hL
  clear hL
  have HB := Aside0.mk (Below.refl w.heap.size w)
  have H : ((strconv_Itoa.f a0).bind fun t227 => (some t227)) = some r := h
  clear h
  replace H := Option.bind_eq_some_iff.mp H
  obtain ⟨t227, A20, H⟩ := H
  replace H : (some t227) = some r := H
  have A2 := Aside0.mk A20
  clear A20
  obtain rfl := Option.some.inj H
  go_enter Tryd.func47, Tryd.ntmps47
  go_wp2_with (first | ((with_reducible refine gate_callee (f := 82) rfl ?_); refine goesL_ (some 4) rfl rfl Tryd.func82 (by kernel_rfl) rfl #[.int .i64 a0] rfl (by (try simp only [List.map_toArray, List.map_cons, List.map_nil]); first | done | rfl | (simp only [List.length_drop, List.length_take]; rfl)) ?_; (with_reducible refine (strconv_Itoa.calls a0 t227 _ A2.out (Tabs.below HL.out (by repeat (first | (with_reducible first | exact HB.out | apply below_alloc | apply pw_below_drewN | apply below_drew1) | exact HB.out)))).mono ?_); rintro e w3 ⟨rfl, hb⟩; refine ⟨_, rfl, ?_⟩; have n0_ := Aside0.mk (below_step (by repeat (first | (with_reducible first | exact HB.out | apply below_alloc | apply pw_below_drewN | apply below_drew1) | exact HB.out)) hb); clear HB; have HB := n0_; clear n0_; (try clear hb); (try clear hb2); (try clear hk); (try clear hi)))
  go_ret
  exact ⟨by first | rfl | (simp [errW_none, errW_some] <;> rfl) | (simp [*, errW_none, errW_some] <;> rfl) | (simp only [decide_eq_true_eq] at *; simp [*, bt]; done), by repeat (first | (with_reducible first | exact HB.out | apply below_alloc | apply pw_below_drewN | apply below_drew1) | exact HB.out)⟩

/-! ### impl_orDash: function 48 -/
def impl_orDash.f (a0 : ByteArray) : Option (ByteArray) := if a0.toList = ([] : List UInt8) then (some (⟨#[45]⟩ : ByteArray)) else (some a0)
set_option maxHeartbeats 8000000 in
set_option maxRecDepth 100000 in
theorem impl_orDash.calls (a0 : ByteArray) (r : ByteArray) (w : World) (h : impl_orDash.f a0 = some r) :
    Calls Tryd.prog 48 #[.string a0] w fun e w' => e = .returned (.string r) ∧ Drawn0 w w' := by
  have H : (if a0.toList = ([] : List UInt8) then (some (⟨#[45]⟩ : ByteArray)) else (some a0)) = some r := h
  clear h
  by_cases c2 : a0.toList = ([] : List UInt8)
  · rw [if_pos c2] at H
    have c2b0 : (a0.toList == ([] : List UInt8)) = true := beq_iff_eq.mpr c2
    have c2b0i : (a0.toList).isEmpty = true := (by cases a0.toList <;> rfl : (a0.toList == ([] : List UInt8)) = (a0.toList).isEmpty).symm.trans c2b0
    have c2b1 : (a0.toList != ([] : List UInt8)) = false := bne_eq_false_iff_eq.mpr c2
    clear c2
    obtain rfl := Option.some.inj H
    go_enter Tryd.func48, Tryd.ntmps48
    go_wp2
    all_goals try (rename_i h_; rw [c2b0i] at h_; cases h_; done)
    go_ret
    exact ⟨by first | rfl | (simp; done) | (simp [*]; done), by repeat (first | exact Drawn0.refl _ | apply Drawn0.step)⟩
  · rw [if_neg c2] at H
    have c2b0 : (a0.toList == ([] : List UInt8)) = false := beq_eq_false_iff_ne.mpr c2
    have c2b0i : (a0.toList).isEmpty = false := (by cases a0.toList <;> rfl : (a0.toList == ([] : List UInt8)) = (a0.toList).isEmpty).symm.trans c2b0
    have c2b1 : (a0.toList != ([] : List UInt8)) = true := bne_iff_ne.mpr c2
    obtain rfl := Option.some.inj H
    go_enter Tryd.func48, Tryd.ntmps48
    go_wp2
    all_goals try (rename_i h_; rw [c2b0i] at h_; cases h_; done)
    go_ret
    exact ⟨by first | rfl | (simp; done) | (simp [*]; done), by repeat (first | exact Drawn0.refl _ | apply Drawn0.step)⟩

/-! ### strings_Join: function 49, by a contract of our own -/
/-- Of a result that is no longer than 2^47 bytes. -/
def strings_Join.f (l0 : List ByteArray) (a1 : ByteArray) : Option ByteArray :=
  if l0.length ≤ 140737488355328 ∧ (Lib.join (l0.map (·.data.toList)) a1.data.toList).length ≤ 140737488355328 then some ⟨(Lib.join (l0.map (·.data.toList)) a1.data.toList).toArray⟩ else none
theorem strings_Join.calls (A0 : Option Addr) (c0 : Nat) (l0 : List ByteArray) (a1 : ByteArray) (r : ByteArray) (w : World) (hr0 : Kd.C Kd.string w A0 l0.length l0) (hc0 : l0.length ≤ c0) (h : strings_Join.f l0 a1 = some r) :
    Calls Tryd.prog 49 #[.slice A0 l0.length c0, .string a1] w fun e w' => e = .returned (.string r) ∧ Below w.heap.size w w' := by
  unfold strings_Join.f at h
  by_cases hb : l0.length ≤ 140737488355328 ∧ (Lib.join (l0.map (·.data.toList)) a1.data.toList).length ≤ 140737488355328
  · rw [if_pos hb] at h
    obtain rfl := Option.some.inj h
    cases l0 with
    | nil =>
      refine (Tryd.strings_Join_none A0 c0 a1 w).mono fun e w' he => ?_
      obtain ⟨rfl, rfl⟩ := he
      exact ⟨rfl, Below.refl _ _⟩
    | cons x l =>
      obtain ⟨⟨bk, o, sp⟩, rfl, h0⟩ := Kd.at_string hr0 0 (by decide) (by simp only [List.length_cons]; omega)
      have hlt : bk < w.heap.size := Kd.C_lt hr0 (by simp) (by decide)
      have hsp : sp = none := by
        have h1 : w.cell? ⟨bk, o, sp⟩ = some (.string (rdOf ByteArray.empty (x :: l) 0)) := h0
        unfold World.cell? at h1
        cases sp with
        | none => rfl
        | some q =>
          exfalso
          revert h1
          cases hh : w.heap[bk]? with
          | none => simp
          | some ob => cases ob <;> simp
      subst hsp
      refine Tryd.strings_Join bk o c0 (x :: l) a1 w (fun j y hj => ?_) hlt hb.1 hc0 hb.2
      have hjl : j < (x :: l).length := (List.getElem?_eq_some_iff.1 hj).1
      obtain ⟨ad, he, hc⟩ := Kd.at_string hr0 (j : Int) (by omega) (by omega)
      injection he with he
      subst he
      have hy : rdOf ByteArray.empty (x :: l) (j : Int) = y := by
        unfold rdOf
        rw [Int.toNat_natCast, List.getD_eq_getElem?_getD, hj]
        rfl
      rw [hy, Int.toNat_natCast] at hc
      rw [← hc]
      congr 1
      unfold Addr.add
      by_cases hj0 : j = 0
      · subst hj0
        rfl
      · rw [if_neg hj0]
  · rw [if_neg hb] at h
    cases h

end Go.Proofs.YtgmggpgcfonmgaaDoor.PFnExactListText
