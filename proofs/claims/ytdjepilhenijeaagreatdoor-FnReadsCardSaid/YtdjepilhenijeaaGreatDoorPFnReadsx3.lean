-- PRINTED for this claim by a program of this session's repo over the kit's printer, with contracts of our own among the functions.
import Derived.Test.YtdjepilhenijeaaGreatDoorPFnReadsx0
import Derived.Test.YtdjepilhenijeaaGreatDoorPFnReadsx1
import Derived.Test.YtdjepilhenijeaaGreatDoorPFnReadsx2
namespace Go.Proofs.YtdjepilhenijeaaGreatDoor.PFnReads
open Go.RowKit Go.Proofs.YtdjepilhenijeaaGreatDoorW.PrintWords Go.Proofs.YtdjepilhenijeaaGreatDoorW.PrintLast Go.Proofs.YtdjepilhenijeaaGreatDoorW.PrintMore
attribute [local go_sem] max2_int min2_int max_two min_two max_three min_three max_four min_four   -- for this text's walks alone
set_option linter.unusedVariables false
set_option linter.unusedSimpArgs false

/-! ### impl_areDigits: function 81, by a contract of our own -/
/-- The digits of a base. -/
def digs : List UInt8 := [48, 49, 50, 51, 52, 53, 54, 55, 56, 57, 97, 98, 99, 100, 101, 102]
def pDig (b : Nat) (x : Int) : Bool := (digs.take b).contains x.toNat.toUInt8
theorem indexByte_has (c : UInt8) : ∀ l : List UInt8, decide (0 ≤ Lib.indexByte l c) = l.contains c
  | [] => rfl
  | b :: l => by
    have h := indexByte_has c l
    have g := Lib.indexByte_ge l c
    unfold Lib.indexByte
    rw [List.contains_cons]
    by_cases hb : b = c
    · subst hb
      simp
    · have h1 : (b == c) = false := by simpa using hb
      have h2 : (c == b) = false := by simpa using fun e : c = b => hb e.symm
      rw [h1, h2, Bool.false_or, ← h, if_neg (by decide)]
      by_cases hn : Lib.indexByte l c = -1
      · rw [hn]
        rfl
      · have h3 : (Lib.indexByte l c == -1) = false := by simpa using hn
        rw [h3, if_neg (by decide)]
        congr 1
        apply propext
        constructor <;> intro <;> omega
set_option maxRecDepth 100000 in
theorem indexByte_calls (a0 : ByteArray) (a1 : Int) (w : World) :
    Calls Tryz.prog 136 #[.string a0, .int .u8 a1] w fun e w' => e = .returned (.int .i64 (Lib.indexByte a0.data.toList a1.toNat.toUInt8)) ∧ ∃ q, w' = w.drewN q := by
  have hI := fun W => stringslite_IndexByte.calls a0 a1 _ W rfl
  go_enter Tryz.func136, Tryz.ntmps136
  go_wp2_with (go_at_call 166; refine (hI _).mono ?_; rintro e w' ⟨rfl, q, rfl⟩)
  go_ret
  exact ⟨rfl, _, rfl⟩
def hexs : ByteArray := ⟨#[48, 49, 50, 51, 52, 53, 54, 55, 56, 57, 97, 98, 99, 100, 101, 102]⟩
theorem hexs_take (b : Nat) (_hb : b ≤ 16) : (hexs.extract 0 b).data.toList = digs.take b := by
  rw [ByteArray.data_extract, Array.toList_extract, List.extract_eq_take_drop, List.drop_zero, Nat.sub_zero]
  rfl
set_option maxRecDepth 100000 in
set_option maxHeartbeats 2000000 in
theorem pDig_calls (b : Nat) (hb : b ≤ 16) (B : Nat) (x : Int) (W : World) (hc : W.cell? ⟨B, 0, none⟩ = some (.int .i64 (b : Int))) :
    Calls Tryz.prog 135 #[.int .u8 x, .pointer (some ⟨B, 0, none⟩)] W fun e w' => e = .returned (.bool (pDig b x)) ∧ ∃ q, w' = W.drewN q := by
  have hI := fun W => indexByte_calls (hexs.extract 0 b) x W
  have hsl : ∀ w, (Instr.slice 9 (.string hexs) none (some (.int .i64 (b : Int))) none).run Tryz.prog w = .ok (.string (hexs.extract 0 b)) w := fun w => by
    have hz : hexs.size = 16 := rfl
    rw [run_slice_string_to_if w 9 hexs .i64 _ Tryz.underlying9, if_pos ⟨by omega, by rw [hz]; omega⟩, Int.toNat_natCast]
  have e : decide (0 ≤ Lib.indexByte (hexs.extract 0 b).data.toList x.toNat.toUInt8) = pDig b x := by
    rw [indexByte_has, hexs_take b hb]
    rfl
  generalize Lib.indexByte (hexs.extract 0 b).data.toList x.toNat.toUInt8 = r at hI e
  generalize pDig b x = z at e
  subst e
  go_enter Tryz.func135, Tryz.ntmps135
  go_wp2_with (go_at_call 136; refine (hI _).mono ?_; rintro e w' ⟨rfl, q, rfl⟩)
  go_ret
  exact ⟨by first | rfl | simp, _, rfl⟩
theorem pDig_not (b : Nat) (hb : b ≤ 16) (C B : Nat) (W : World) (x : Int) (hc : W.cell? ⟨B, 0, none⟩ = some (.func (.func 135) #[] #[.pointer (some ⟨C, 0, none⟩)])) (hC : W.cell? ⟨C, 0, none⟩ = some (.int .i64 (b : Int))) :
    Calls Tryz.prog 197 #[.int .u8 x, .pointer (some ⟨B, 0, none⟩)] W fun e w' => e = .returned (.bool (!pDig b x)) ∧ ∃ q, w' = W.drewN q := by
  have hp := fun W h => pDig_calls b hb C x W h
  have hp2 : ∀ q, Calls Tryz.prog 135 #[.int .u8 x, .pointer (some ⟨C, 0, none⟩)] (W.drewN q) fun e w' => e = .returned (.bool (pDig b x)) ∧ ∃ q', w' = (W.drewN q).drewN q' := fun q => hp _ hC
  clear hp hC
  go_enter Tryz.func197, Tryz.ntmps197
  go_wp2_with (go_at_call 135; refine (hp2 0).mono ?_; rintro e w' ⟨rfl, q, rfl⟩)
  go_ret
  exact ⟨rfl, q, rfl⟩
def impl_areDigits.f (a0 : ByteArray) (a1 : Int) : Option Bool := if a0.size ≤ 140737488355328 ∧ 0 ≤ a1 ∧ a1 ≤ 16 then some (allB (pDig a1.toNat) a0) else none
set_option maxHeartbeats 2000000 in
theorem impl_areDigits.calls (a0 : ByteArray) (a1 : Int) (r : Bool) (w : World) (h : impl_areDigits.f a0 a1 = some r) :
    Calls Tryz.prog 81 #[.string a0, .int .i64 a1] w fun e w' => e = .returned (.bool r) ∧ Below w.heap.size w w' := by
  unfold impl_areDigits.f at h
  by_cases hs : a0.size ≤ 140737488355328 ∧ 0 ≤ a1 ∧ a1 ≤ 16
  · rw [if_pos hs] at h
    obtain rfl := Option.some.inj h
    obtain ⟨hs, h0, h1⟩ := hs
    obtain ⟨b, rfl⟩ := Int.eq_ofNat_of_zero_le h0
    have hb : b ≤ 16 := by omega
    rw [Int.toNat_natCast]
    have hA := fun (W : World) (hc : W.cell? ⟨w.heap.size, 0, none⟩ = some (.int .i64 (b : Int))) (hlt : w.heap.size < W.heap.size) => areBytes_any (pDig b) 135 #[.pointer (some ⟨w.heap.size, 0, none⟩)] a0 hs W (fun B W2 x hB hW => pDig_not b hb w.heap.size B W2 x hB ((hW.cell (p := ⟨w.heap.size, 0, none⟩) hlt).trans hc))
    clear h h0 h1
    go_enter Tryz.func81, Tryz.ntmps81
    go_wp2_with (go_at_call 113; refine (hA _ (by simp) (by simp)).mono ?_; rintro e w' ⟨rfl, hb⟩)
    go_ret
    exact ⟨rfl, (below_alloc (Below.refl _ _) _).trans (hb.mono (by simp))⟩
  · rw [if_neg hs] at h
    cases h
/-! ### The value of digits in the bases 8 and 16 -/
def dval (c : UInt8) : Nat := if c.toNat ≤ 57 then c.toNat - 48 else c.toNat - 87
def valL (b : Nat) : Nat → List UInt8 → Nat
  | acc, [] => acc
  | acc, c :: l => valL b (acc * b + dval c) l
theorem valL_lt (b : Nat) (hb : 0 < b) : ∀ (l : List UInt8) (acc : Nat), (∀ c ∈ l, dval c < b) → valL b acc l < (acc + 1) * b ^ l.length
  | [], acc, _ => by simp [valL]
  | c :: l, acc, h => by
    have ih := valL_lt b hb l (acc * b + dval c) (fun x hx => h x (by simp [hx]))
    have hc := h c (by simp)
    simp only [valL, List.length_cons]
    refine Nat.lt_of_lt_of_le ih ?_
    rw [Nat.pow_succ, Nat.mul_comm (b ^ l.length) b, ← Nat.mul_assoc]
    apply Nat.mul_le_mul_right
    rw [Nat.add_mul, Nat.one_mul]
    omega
theorem pDig_8 (c : UInt8) (h : pDig 8 (c.toNat : Int) = true) : 48 ≤ c.toNat ∧ c.toNat ≤ 55 := by
  unfold pDig digs at h
  rw [Int.toNat_natCast] at h
  simp at h
  rcases h with h | h | h | h | h | h | h | h <;> subst h <;> decide
theorem pDig_16 (c : UInt8) (h : pDig 16 (c.toNat : Int) = true) : (48 ≤ c.toNat ∧ c.toNat ≤ 57) ∨ (97 ≤ c.toNat ∧ c.toNat ≤ 102) := by
  unfold pDig digs at h
  rw [Int.toNat_natCast] at h
  simp at h
  rcases h with h | h | h | h | h | h | h | h | h | h | h | h | h | h | h | h <;> subst h <;> decide
theorem lower_calls (x : Int) (h0 : 97 ≤ x) (h1 : x ≤ 102) (w : World) :
    Calls Tryz.prog 204 #[.int .u8 x] w fun e w' => e = .returned (.int .u8 x) ∧ w' = w := by
  have hx : bits .or .u8 x 32 = x := by
    have : x = 97 ∨ x = 98 ∨ x = 99 ∨ x = 100 ∨ x = 101 ∨ x = 102 := by omega
    rcases this with rfl | rfl | rfl | rfl | rfl | rfl <;> decide
  go_enter Tryz.func204, Tryz.ntmps204
  go_wp2
  go_ret
  exact ⟨by first | rfl | (simp only [hx]; rfl) | simp [hx], rfl⟩
set_option maxHeartbeats 32000000 in
set_option maxRecDepth 100000 in
theorem parseUint8 (t : ByteArray) (hne : t.size ≠ 0) (hmax : t.size ≤ 20) (hd : ∀ c ∈ t.data.toList, 48 ≤ c.toNat ∧ c.toNat ≤ 55) (w : World) :
    Calls Tryz.prog 167 #[.string t, .int .i64 8, .int .i64 64] w fun e w' => e = .returned (.tuple #[.int .u64 ((valL 8 0 t.data.toList : Nat) : Int), .nilIface]) ∧ w' = Lib.bytesWorld w 5 t := by
  have hemp : t.toList.isEmpty = false := by
    rw [← decide_eq_emptyBytes]
    exact decide_eq_false (fun h => hne (by rw [h]; rfl))
  have hcv := Lib.run_convert_string_bytes (P := Tryz.prog) w 9 22 5 t (u := .string) Tryz.underlying9 Tryz.underlying22 Tryz.underlying5
  have hB : ∀ j, j < t.size → (Lib.bytesWorld w 5 t).cell? ⟨w.heap.size, j, none⟩ = some (.int .u8 (t.data.toList.getD j 0).toNat) := fun j hj => Lib.bytesWorld_cell w 5 t j hj
  obtain ⟨W1, hW1⟩ : ∃ W1, W1 = Lib.bytesWorld w 5 t := ⟨_, rfl⟩
  rw [← hW1] at hcv hB ⊢
  clear hW1
  obtain ⟨bs, hL⟩ : ∃ bs, bs = t.data.toList := ⟨_, rfl⟩
  have hLn : bs.length = t.size := by rw [hL, Lib.size_eq]
  rw [← hL] at hB hd ⊢
  clear hL
  have hmv : IntKind.u64.wrap (IntKind.u64.wrap 18446744073709551616 - 1) = 18446744073709551615 := by
    rw [IntKind.wrap_u64, IntKind.wrap_u64]
    decide
  go_enter Tryz.func167, Tryz.ntmps167
  go_wp2
  go_loop [12, 13, 101] (fun vu vn vi => ∃ (k acc : Nat) (a : Int), vu = .bool false ∧ vn = .int .u64 a ∧ vi = .int .i64 k ∧ k ≤ t.size ∧ Hid (a = (acc : Int) ∧ acc < 8 ^ k ∧ valL 8 0 bs = valL 8 acc (bs.drop k)))
    (fun _ _ vi => t.size - (intOf vi).toNat)
  case atStart => exact ⟨0, 0, 0, rfl, rfl, rfl, by omega, rfl, by decide, rfl⟩
  case round =>
    obtain ⟨k, acc, a, rfl, rfl, rfl, hk, hh⟩ := hrel
    obtain ⟨ha, hacc, hdec⟩ := hh.out
    clear hh
    have a0 : 0 ≤ a := by omega
    by_cases hkn : k < t.size
    · have hpow : 8 ^ k ≤ 8 ^ (20 - 1) := Nat.pow_le_pow_right (by decide) (by omega)
      have hP : 8 ^ (20 - 1) = 144115188075855872 := by decide
      have hc := hB k hkn
      have hdrop : bs.drop k = bs[k]'(by omega) :: bs.drop (k + 1) := List.drop_eq_getElem_cons (by omega)
      have hget : bs.getD k 0 = bs[k]'(by omega) := by simp [List.getD, List.getElem?_eq_getElem (show k < bs.length by omega)]
      have hdk := hd (bs[k]'(by omega)) (List.getElem_mem _)
      rw [hdrop] at hdec
      rw [hget] at hc
      generalize bs[k]'(by omega) = c at hc hdec hdk
      have hc256 : c.toNat < 256 := c.toNat_lt
      clear hB hdrop hget hd
      simp only [valL] at hdec
      · obtain ⟨hd0, hd1⟩ := hdk
        have hF : dval c = c.toNat - 48 := if_pos (by omega)
        have HN : Hid (a * 8 + ((c.toNat : Int) - 48) = ((acc * 8 + dval c : Nat) : Int) ∧ acc * 8 + dval c < 8 ^ (k + 1) ∧ valL 8 0 bs = valL 8 (acc * 8 + dval c) (bs.drop (k + 1))) := Lib.hid ⟨by omega, by rw [Nat.pow_succ]; omega, hdec⟩
        have icut : a < 2305843009213693952 := by omega
        have iov : a * 8 + ((c.toNat : Int) - 48) < 1152921504606846976 := by omega
        clear hacc hdec ha hF hP hpow
        go_wp2
        refine ⟨⟨k + 1, acc * 8 + dval c, a * 8 + ((c.toNat : Int) - 48), rfl, (by first | rfl | (congr 1; omega)), (by first | rfl | (congr 1; omega)), by omega, HN⟩, by simp [intOf]; omega⟩
    · have hkk : k = t.size := by omega
      subst hkk
      rw [List.drop_eq_nil_of_le (by omega)] at hdec
      simp only [valL] at hdec
      subst ha
      clear hacc a0
      go_wp2
      go_ret2
      exact ⟨by first | rfl | (rw [hdec]; rfl) | simp [hdec], rfl⟩
set_option maxHeartbeats 8000000 in
set_option maxRecDepth 100000 in
theorem parseIntIn8 (s : ByteArray) (hne : s.size ≠ 0) (hmax : s.size ≤ 20) (hd : ∀ c ∈ s.data.toList, 48 ≤ c.toNat ∧ c.toNat ≤ 55) (w : World) :
    Calls Tryz.prog 137 #[.string s, .int .i64 8, .int .i64 64] w fun e w' => e = .returned (.tuple #[.int .i64 ((valL 8 0 s.data.toList : Nat) : Int), .nilIface]) ∧ w' = Lib.bytesWorld w 5 s := by
  have hU := fun W => parseUint8 s hne hmax hd W
  have hemp : s.toList.isEmpty = false := by
    rw [← decide_eq_emptyBytes]
    exact decide_eq_false (fun h => hne (by rw [h]; rfl))
  have hpos : 0 < s.size := by omega
  have hval : valL 8 0 s.data.toList < 9223372036854775808 := by
    refine Nat.lt_of_lt_of_le (valL_lt 8 (by decide) _ 0 (fun c hc => ?_)) ?_
    · have := hd c hc
      unfold dval
      split <;> omega
    · rw [Nat.zero_add, Nat.one_mul]
      refine Nat.le_trans (Nat.pow_le_pow_right (by decide) (show s.data.toList.length ≤ 20 by rw [← Lib.size_eq]; exact hmax)) (by decide)
  obtain ⟨c0, r, hL⟩ : ∃ c0 r, s.data.toList = c0 :: r := by
    cases h : s.data.toList with
    | nil => exact absurd (by rw [Lib.size_eq, h]; rfl) hne
    | cons c0 r => exact ⟨c0, r, rfl⟩
  have hs0 : s[0]'hpos = c0 := by have := Lib.getD_at s 0 hpos; rw [hL] at this; exact this
  have hc0 := hd c0 (by rw [hL]; simp)
  have i43 : ¬ (c0.toNat : Int) = 43 := by omega
  have i45 : ¬ (c0.toNat : Int) = 45 := by omega
  generalize valL 8 0 s.data.toList = v at hU hval ⊢
  obtain ⟨a, ha⟩ : ∃ a : Int, a = (v : Int) := ⟨_, rfl⟩
  rw [← ha] at hU ⊢
  have a0 : 0 ≤ a := by omega
  have a1 : a < 9223372036854775808 := by omega
  clear hd hL hc0 hval ha hmax
  go_enter Tryz.func137, Tryz.ntmps137
  go_wp2_with (go_at_call 167; refine (hU _).mono ?_; rintro e w1 ⟨rfl, rfl⟩)
  go_ret2
  exact ⟨rfl, rfl⟩
set_option maxRecDepth 100000 in
theorem parseInt8 (s : ByteArray) (hne : s.size ≠ 0) (hmax : s.size ≤ 20) (hd : ∀ c ∈ s.data.toList, 48 ≤ c.toNat ∧ c.toNat ≤ 55) (w : World) :
    Calls Tryz.prog 82 #[.string s, .int .i64 8, .int .i64 64] w fun e w' => e = .returned (.tuple #[.int .i64 ((valL 8 0 s.data.toList : Nat) : Int), .nilIface]) ∧ w' = Lib.bytesWorld w 5 s := by
  have hU := fun W => parseIntIn8 s hne hmax hd W
  generalize valL 8 0 s.data.toList = v at hU ⊢
  clear hne hmax hd
  go_enter Tryz.func82, Tryz.ntmps82
  go_wp2_with (go_at_call 137; refine (hU _).mono ?_; rintro e w1 ⟨rfl, rfl⟩)
  go_ret2
  exact ⟨rfl, rfl⟩
set_option maxHeartbeats 32000000 in
set_option maxRecDepth 100000 in
theorem parseUint16 (t : ByteArray) (hne : t.size ≠ 0) (hmax : t.size ≤ 15) (hd : ∀ c ∈ t.data.toList, (48 ≤ c.toNat ∧ c.toNat ≤ 57) ∨ (97 ≤ c.toNat ∧ c.toNat ≤ 102)) (w : World) :
    Calls Tryz.prog 167 #[.string t, .int .i64 16, .int .i64 64] w fun e w' => e = .returned (.tuple #[.int .u64 ((valL 16 0 t.data.toList : Nat) : Int), .nilIface]) ∧ w' = Lib.bytesWorld w 5 t := by
  have hemp : t.toList.isEmpty = false := by
    rw [← decide_eq_emptyBytes]
    exact decide_eq_false (fun h => hne (by rw [h]; rfl))
  have hcv := Lib.run_convert_string_bytes (P := Tryz.prog) w 9 22 5 t (u := .string) Tryz.underlying9 Tryz.underlying22 Tryz.underlying5
  have hB : ∀ j, j < t.size → (Lib.bytesWorld w 5 t).cell? ⟨w.heap.size, j, none⟩ = some (.int .u8 (t.data.toList.getD j 0).toNat) := fun j hj => Lib.bytesWorld_cell w 5 t j hj
  obtain ⟨W1, hW1⟩ : ∃ W1, W1 = Lib.bytesWorld w 5 t := ⟨_, rfl⟩
  rw [← hW1] at hcv hB ⊢
  clear hW1
  obtain ⟨bs, hL⟩ : ∃ bs, bs = t.data.toList := ⟨_, rfl⟩
  have hLn : bs.length = t.size := by rw [hL, Lib.size_eq]
  rw [← hL] at hB hd ⊢
  clear hL
  have hmv : IntKind.u64.wrap (IntKind.u64.wrap 18446744073709551616 - 1) = 18446744073709551615 := by
    rw [IntKind.wrap_u64, IntKind.wrap_u64]
    decide
  go_enter Tryz.func167, Tryz.ntmps167
  go_wp2
  go_loop [12, 13, 101] (fun vu vn vi => ∃ (k acc : Nat) (a : Int), vu = .bool false ∧ vn = .int .u64 a ∧ vi = .int .i64 k ∧ k ≤ t.size ∧ Hid (a = (acc : Int) ∧ acc < 16 ^ k ∧ valL 16 0 bs = valL 16 acc (bs.drop k)))
    (fun _ _ vi => t.size - (intOf vi).toNat)
  case atStart => exact ⟨0, 0, 0, rfl, rfl, rfl, by omega, rfl, by decide, rfl⟩
  case round =>
    obtain ⟨k, acc, a, rfl, rfl, rfl, hk, hh⟩ := hrel
    obtain ⟨ha, hacc, hdec⟩ := hh.out
    clear hh
    have a0 : 0 ≤ a := by omega
    by_cases hkn : k < t.size
    · have hpow : 16 ^ k ≤ 16 ^ (15 - 1) := Nat.pow_le_pow_right (by decide) (by omega)
      have hP : 16 ^ (15 - 1) = 72057594037927936 := by decide
      have hc := hB k hkn
      have hdrop : bs.drop k = bs[k]'(by omega) :: bs.drop (k + 1) := List.drop_eq_getElem_cons (by omega)
      have hget : bs.getD k 0 = bs[k]'(by omega) := by simp [List.getD, List.getElem?_eq_getElem (show k < bs.length by omega)]
      have hdk := hd (bs[k]'(by omega)) (List.getElem_mem _)
      rw [hdrop] at hdec
      rw [hget] at hc
      generalize bs[k]'(by omega) = c at hc hdec hdk
      have hc256 : c.toNat < 256 := c.toNat_lt
      clear hB hdrop hget hd
      simp only [valL] at hdec
      rcases hdk with ⟨hd0, hd1⟩ | ⟨hd0, hd1⟩
      · have hF : dval c = c.toNat - 48 := if_pos (by omega)
        have HN : Hid (a * 16 + ((c.toNat : Int) - 48) = ((acc * 16 + dval c : Nat) : Int) ∧ acc * 16 + dval c < 16 ^ (k + 1) ∧ valL 16 0 bs = valL 16 (acc * 16 + dval c) (bs.drop (k + 1))) := Lib.hid ⟨by omega, by rw [Nat.pow_succ]; omega, hdec⟩
        have icut : a < 1152921504606846976 := by omega
        have iov : a * 16 + ((c.toNat : Int) - 48) < 1152921504606846976 := by omega
        clear hacc hdec ha hF hP hpow
        go_wp2
        refine ⟨⟨k + 1, acc * 16 + dval c, a * 16 + ((c.toNat : Int) - 48), rfl, (by first | rfl | (congr 1; omega)), (by first | rfl | (congr 1; omega)), by omega, HN⟩, by simp [intOf]; omega⟩
      · have hF : dval c = c.toNat - 87 := if_neg (by omega)
        have hlow := fun W => lower_calls (c.toNat : Int) (by omega) (by omega) W
        have HN : Hid (a * 16 + ((c.toNat : Int) - 97 + 10) = ((acc * 16 + dval c : Nat) : Int) ∧ acc * 16 + dval c < 16 ^ (k + 1) ∧ valL 16 0 bs = valL 16 (acc * 16 + dval c) (bs.drop (k + 1))) := Lib.hid ⟨by omega, by rw [Nat.pow_succ]; omega, hdec⟩
        have icut : a < 1152921504606846976 := by omega
        have iov : a * 16 + ((c.toNat : Int) - 97 + 10) < 1152921504606846976 := by omega
        clear hacc hdec ha hF hP hpow
        go_wp2_with (go_at_call 204; refine (hlow _).mono ?_; rintro e w' ⟨rfl, rfl⟩)
        refine ⟨⟨k + 1, acc * 16 + dval c, a * 16 + ((c.toNat : Int) - 97 + 10), rfl, (by first | rfl | (congr 1; omega)), (by first | rfl | (congr 1; omega)), by omega, HN⟩, by simp [intOf]; omega⟩
    · have hkk : k = t.size := by omega
      subst hkk
      rw [List.drop_eq_nil_of_le (by omega)] at hdec
      simp only [valL] at hdec
      subst ha
      clear hacc a0
      go_wp2
      go_ret2
      exact ⟨by first | rfl | (rw [hdec]; rfl) | simp [hdec], rfl⟩
set_option maxHeartbeats 8000000 in
set_option maxRecDepth 100000 in
theorem parseIntIn16 (s : ByteArray) (hne : s.size ≠ 0) (hmax : s.size ≤ 15) (hd : ∀ c ∈ s.data.toList, (48 ≤ c.toNat ∧ c.toNat ≤ 57) ∨ (97 ≤ c.toNat ∧ c.toNat ≤ 102)) (w : World) :
    Calls Tryz.prog 137 #[.string s, .int .i64 16, .int .i64 64] w fun e w' => e = .returned (.tuple #[.int .i64 ((valL 16 0 s.data.toList : Nat) : Int), .nilIface]) ∧ w' = Lib.bytesWorld w 5 s := by
  have hU := fun W => parseUint16 s hne hmax hd W
  have hemp : s.toList.isEmpty = false := by
    rw [← decide_eq_emptyBytes]
    exact decide_eq_false (fun h => hne (by rw [h]; rfl))
  have hpos : 0 < s.size := by omega
  have hval : valL 16 0 s.data.toList < 9223372036854775808 := by
    refine Nat.lt_of_lt_of_le (valL_lt 16 (by decide) _ 0 (fun c hc => ?_)) ?_
    · have := hd c hc
      unfold dval
      split <;> omega
    · rw [Nat.zero_add, Nat.one_mul]
      refine Nat.le_trans (Nat.pow_le_pow_right (by decide) (show s.data.toList.length ≤ 15 by rw [← Lib.size_eq]; exact hmax)) (by decide)
  obtain ⟨c0, r, hL⟩ : ∃ c0 r, s.data.toList = c0 :: r := by
    cases h : s.data.toList with
    | nil => exact absurd (by rw [Lib.size_eq, h]; rfl) hne
    | cons c0 r => exact ⟨c0, r, rfl⟩
  have hs0 : s[0]'hpos = c0 := by have := Lib.getD_at s 0 hpos; rw [hL] at this; exact this
  have hc0 := hd c0 (by rw [hL]; simp)
  have i43 : ¬ (c0.toNat : Int) = 43 := by omega
  have i45 : ¬ (c0.toNat : Int) = 45 := by omega
  generalize valL 16 0 s.data.toList = v at hU hval ⊢
  obtain ⟨a, ha⟩ : ∃ a : Int, a = (v : Int) := ⟨_, rfl⟩
  rw [← ha] at hU ⊢
  have a0 : 0 ≤ a := by omega
  have a1 : a < 9223372036854775808 := by omega
  clear hd hL hc0 hval ha hmax
  go_enter Tryz.func137, Tryz.ntmps137
  go_wp2_with (go_at_call 167; refine (hU _).mono ?_; rintro e w1 ⟨rfl, rfl⟩)
  go_ret2
  exact ⟨rfl, rfl⟩
set_option maxRecDepth 100000 in
theorem parseInt16 (s : ByteArray) (hne : s.size ≠ 0) (hmax : s.size ≤ 15) (hd : ∀ c ∈ s.data.toList, (48 ≤ c.toNat ∧ c.toNat ≤ 57) ∨ (97 ≤ c.toNat ∧ c.toNat ≤ 102)) (w : World) :
    Calls Tryz.prog 82 #[.string s, .int .i64 16, .int .i64 64] w fun e w' => e = .returned (.tuple #[.int .i64 ((valL 16 0 s.data.toList : Nat) : Int), .nilIface]) ∧ w' = Lib.bytesWorld w 5 s := by
  have hU := fun W => parseIntIn16 s hne hmax hd W
  generalize valL 16 0 s.data.toList = v at hU ⊢
  clear hne hmax hd
  go_enter Tryz.func82, Tryz.ntmps82
  go_wp2_with (go_at_call 137; refine (hU _).mono ?_; rintro e w1 ⟨rfl, rfl⟩)
  go_ret2
  exact ⟨rfl, rfl⟩

/-! ### impl_GetOct: function 9, by a contract of our own -/
def impl_GetOct.f (a0 : ByteArray) : Option (Int × Bool) :=
  if a0.size ≤ 140737488355328 then (if (1 ≤ a0.size ∧ a0.size ≤ 20) then (if allB (pDig 8) a0 = true then (if valL 8 0 a0.data.toList ≤ 9007199254740991 then some (((valL 8 0 a0.data.toList : Nat) : Int), true) else some (0, false)) else some (0, false)) else some (0, false)) else none
set_option maxRecDepth 100000 in
set_option maxHeartbeats 4000000 in
theorem impl_GetOct.calls (a0 : ByteArray) (r1 : Int) (r2 : Bool) (w : World) (h : impl_GetOct.f a0 = some (r1, r2)) :
    Calls Tryz.prog 9 #[.string a0] w fun e w' => e = .returned (.tuple #[.int .i64 r1, .bool r2]) ∧ Below w.heap.size w w' := by
  unfold impl_GetOct.f at h
  by_cases hs : a0.size ≤ 140737488355328
  case neg =>
    rw [if_neg hs] at h
    cases h
  rw [if_pos hs] at h
  have hA := fun W => impl_areDigits.calls a0 8 (allB (pDig 8) a0) W (by unfold impl_areDigits.f; rw [if_pos ⟨hs, by decide, by decide⟩]; rfl)
  by_cases hlen : (1 ≤ a0.size ∧ a0.size ≤ 20)
  · rw [if_pos hlen] at h
    have hW := fun W => impl_within.calls (a0.size : Int) 1 20 true W (by unfold impl_within.f; rw [if_pos (by omega), decide_eq_true (by omega)])
    have hne : a0.size ≠ 0 := by omega
    cases hd : allB (pDig 8) a0 with
    | false =>
      rw [hd] at hA h
      rw [if_neg (by decide)] at h
      obtain ⟨rfl, rfl⟩ := Prod.mk.inj (Option.some.inj h)
      clear h hd
      go_enter Tryz.func9, Tryz.ntmps9
      go_wp2_with (first | (go_at_call 80; refine (hW _).mono ?_; rintro e w' ⟨rfl, q, rfl⟩) | (go_at_call 81; refine (hA _).mono ?_; rintro e w1 ⟨rfl, hb⟩))
      go_ret2
      exact ⟨rfl, (pw_below_drewN (Below.refl _ _) q).trans (hb.mono (by simp))⟩
    | true =>
      rw [hd] at hA h
      rw [if_pos rfl] at h
      have hdig : ∀ c ∈ a0.data.toList, 48 ≤ c.toNat ∧ c.toNat ≤ 55 := fun c hc => pDig_8 c (by
        unfold allB at hd
        rw [ByteArray.toList_eq] at hd
        exact List.all_eq_true.1 hd c hc)
      have hP := fun W => parseInt8 a0 hne (by omega) hdig W
      clear hd hdig
      generalize valL 8 0 a0.data.toList = v at hP h
      by_cases hv : v ≤ 9007199254740991
      · rw [if_pos hv] at h
        obtain ⟨rfl, rfl⟩ := Prod.mk.inj (Option.some.inj h)
        clear h
        go_enter Tryz.func9, Tryz.ntmps9
        go_wp2_with (first | (go_at_call 80; refine (hW _).mono ?_; rintro e w' ⟨rfl, q, rfl⟩) | (go_at_call 81; refine (hA _).mono ?_; rintro e w1 ⟨rfl, hb⟩) | (go_at_call 82; refine (hP _).mono ?_; rintro e w2 ⟨rfl, rfl⟩))
        go_ret2
        exact ⟨rfl, ((pw_below_drewN (Below.refl _ _) q).trans (hb.mono (by simp))).trans ((bytes_below (Below.refl _ _) (Nat.le_refl _) _ a0).mono (Nat.le_trans (by simp) hb.size))⟩
      · rw [if_neg hv] at h
        obtain ⟨rfl, rfl⟩ := Prod.mk.inj (Option.some.inj h)
        clear h
        go_enter Tryz.func9, Tryz.ntmps9
        go_wp2_with (first | (go_at_call 80; refine (hW _).mono ?_; rintro e w' ⟨rfl, q, rfl⟩) | (go_at_call 81; refine (hA _).mono ?_; rintro e w1 ⟨rfl, hb⟩) | (go_at_call 82; refine (hP _).mono ?_; rintro e w2 ⟨rfl, rfl⟩))
        go_ret2
        exact ⟨rfl, ((pw_below_drewN (Below.refl _ _) q).trans (hb.mono (by simp))).trans ((bytes_below (Below.refl _ _) (Nat.le_refl _) _ a0).mono (Nat.le_trans (by simp) hb.size))⟩
  · rw [if_neg hlen] at h
    have hW := fun W => impl_within.calls (a0.size : Int) 1 20 false W (by unfold impl_within.f; by_cases c : (1 : Int) ≤ (a0.size : Int) <;> simp only [c, if_true, if_false] <;> first | rfl | rw [decide_eq_false (by omega)])
    obtain ⟨rfl, rfl⟩ := Prod.mk.inj (Option.some.inj h)
    clear h
    go_enter Tryz.func9, Tryz.ntmps9
    go_wp2_with (first | (go_at_call 80; refine (hW _).mono ?_; rintro e w' ⟨rfl, q, rfl⟩) | (go_at_call 81; refine (hA _).mono ?_; rintro e w1 ⟨rfl, hb⟩))
    go_ret2
    exact ⟨rfl, (pw_below_drewN (Below.refl _ _) q)⟩

/-! ### spec_l01Value: function 84 -/
def spec_l01Value.l0 : Nat → ByteArray → Int → Int → Int → Option (Int)
  | 0, _, _, _, _ => none
  | k + 1, x0, x1, x5, x6 => if x6 < (x0.size : Int) then (if 0 ≤ x6 then ((spec_l01In.f (wrap64 (bt x0 x6)) 48 57).bind fun t183 => (if t183 = true then (if (wrap64 ((wrap64 (bt x0 x6)) - 48)) < 0 then (some (-1)) else (if (wrap64 ((wrap64 (bt x0 x6)) - 48)) ≥ x1 then (some (-1)) else (if x1 = 0 then (none) else (if x5 > (wrap64 (Int.tdiv (wrap64 (9007199254740991 - (wrap64 ((wrap64 (bt x0 x6)) - 48)))) x1)) then (some (-1)) else (spec_l01Value.l0 k x0 x1 (wrap64 ((wrap64 (x5 * x1)) + (wrap64 ((wrap64 (bt x0 x6)) - 48)))) (wrap64 (x6 + 1))))))) else ((spec_l01In.f (wrap64 (bt x0 x6)) 97 102).bind fun t184 => (if t184 = true then (if (wrap64 ((wrap64 (bt x0 x6)) - 87)) < 0 then (some (-1)) else (if (wrap64 ((wrap64 (bt x0 x6)) - 87)) ≥ x1 then (some (-1)) else (if x1 = 0 then (none) else (if x5 > (wrap64 (Int.tdiv (wrap64 (9007199254740991 - (wrap64 ((wrap64 (bt x0 x6)) - 87)))) x1)) then (some (-1)) else (spec_l01Value.l0 k x0 x1 (wrap64 ((wrap64 (x5 * x1)) + (wrap64 ((wrap64 (bt x0 x6)) - 87)))) (wrap64 (x6 + 1))))))) else (if (-1) < 0 then (some (-1)) else (if (-1) ≥ x1 then (some (-1)) else (if x1 = 0 then (none) else (if x5 > (wrap64 ((9007199254740991 - (-1)) / x1)) then (some (-1)) else (spec_l01Value.l0 k x0 x1 (wrap64 ((wrap64 (x5 * x1)) + (-1))) (wrap64 (x6 + 1))))))))))) else (none)) else (some x5)
def spec_l01Value.f (k : Nat) (a0 : ByteArray) (a1 : Int) : Option (Int) := spec_l01Value.l0 k a0 a1 0 0
theorem spec_l01Value.mono_l : ∀ k, (∀ y0 y1 y2 y3, LeO (spec_l01Value.l0 k y0 y1 y2 y3) (spec_l01Value.l0 (k + 1) y0 y1 y2 y3))
  | 0 => fun _ _ _ _ r h => by simp [spec_l01Value.l0] at h
  | k + 1 => by
    have ih0 := spec_l01Value.mono_l k
    · intro y0 y1 y2 y3
      unfold spec_l01Value.l0
      repeat' first
      | (with_reducible exact ih0 _ _ _ _)
      | (with_reducible exact LeO.refl _)
      | (with_reducible exact LeO.none _)
      | (with_reducible refine LeO.ite ?_ ?_)
      | (with_reducible refine LeO.bind ?_ (fun _ => ?_))
      | exact ih0 _ _ _ _
      | exact LeO.none _
      | refine LeO.ite ?_ ?_
      | refine LeO.bind ?_ (fun _ => ?_)
theorem spec_l01Value.mono : ∀ a0 a1 k, LeO (spec_l01Value.f k a0 a1) (spec_l01Value.f (k + 1) a0 a1) := by
  intro a0 a1 k
  have ih0 := spec_l01Value.mono_l k
  unfold spec_l01Value.f
  repeat' first
      | (with_reducible exact ih0 _ _ _ _)
      | (with_reducible exact LeO.refl _)
      | (with_reducible exact LeO.none _)
      | (with_reducible refine LeO.ite ?_ ?_)
      | (with_reducible refine LeO.bind ?_ (fun _ => ?_))
      | exact ih0 _ _ _ _
      | exact LeO.none _
      | refine LeO.ite ?_ ?_
      | refine LeO.bind ?_ (fun _ => ?_)
set_option maxHeartbeats 8000000 in
set_option maxRecDepth 100000 in
theorem spec_l01Value.calls (k : Nat) (a0 : ByteArray) (a1 : Int) (r : Int) (w : World) (h : spec_l01Value.f k a0 a1 = some r) :
    Calls Tryz.prog 84 #[.string a0, .int .i64 a1] w fun e w' => e = .returned (.int .i64 r) ∧ Drawn0 w w' := by
  have H : (spec_l01Value.l0 k a0 a1 0 0) = some r := h
  clear h
  have H' := Aside0.mk H
  clear H
  go_enter Tryz.func84, Tryz.ntmps84
  go_wp2
  go_loopg [5, 6] k (fun kq v5 v6 w' => ∃ (x5_1 : Int) (x6_1 : Int), v5 = .int .i64 x5_1 ∧ v6 = .int .i64 x6_1 ∧ Aside0 (spec_l01Value.l0 kq a0 a1 x5_1 x6_1 = some r) ∧ Aside0 (kq ≤ k) ∧ Drawn0 w w')
  case atStart => exact ⟨(0), (0), (by first | rfl | (simp; done) | (simp [*]; done)), (by first | rfl | (simp; done) | (simp [*]; done)), H', ⟨Nat.le_refl _⟩, by repeat (first | exact Drawn0.refl _ | apply Drawn0.step)⟩
  case round =>
    clear H'
    try clear p2
    obtain ⟨x5_1, x6_1, rfl, rfl, HA, HK1, ⟨m1, rfl⟩⟩ := hrel
    cases gk with
    | zero => exact absurd HA.out (by simp [spec_l01Value.l0])
    | succ k1 =>
      have H := HA.out
      clear HA
      simp only [spec_l01Value.l0] at H
      by_cases c3 : x6_1 < (a0.size : Int)
      · rw [if_pos c3] at H
        have c3b0 : decide (x6_1 < (a0.size : Int)) = true := decide_eq_true c3
        clear c3
        by_cases c4 : 0 ≤ x6_1
        · rw [if_pos c4] at H
          have c4b0 : decide (0 ≤ x6_1) = true := decide_eq_true c4
          clear c4
          replace H := Option.bind_eq_some_iff.mp H
          obtain ⟨t183, A60, H⟩ := H
          replace H : (if t183 = true then (if (wrap64 ((wrap64 (bt a0 x6_1)) - 48)) < 0 then (some (-1)) else (if (wrap64 ((wrap64 (bt a0 x6_1)) - 48)) ≥ a1 then (some (-1)) else (if a1 = 0 then (none) else (if x5_1 > (wrap64 (Int.tdiv (wrap64 (9007199254740991 - (wrap64 ((wrap64 (bt a0 x6_1)) - 48)))) a1)) then (some (-1)) else (spec_l01Value.l0 k1 a0 a1 (wrap64 ((wrap64 (x5_1 * a1)) + (wrap64 ((wrap64 (bt a0 x6_1)) - 48)))) (wrap64 (x6_1 + 1))))))) else ((spec_l01In.f (wrap64 (bt a0 x6_1)) 97 102).bind fun t184 => (if t184 = true then (if (wrap64 ((wrap64 (bt a0 x6_1)) - 87)) < 0 then (some (-1)) else (if (wrap64 ((wrap64 (bt a0 x6_1)) - 87)) ≥ a1 then (some (-1)) else (if a1 = 0 then (none) else (if x5_1 > (wrap64 (Int.tdiv (wrap64 (9007199254740991 - (wrap64 ((wrap64 (bt a0 x6_1)) - 87)))) a1)) then (some (-1)) else (spec_l01Value.l0 k1 a0 a1 (wrap64 ((wrap64 (x5_1 * a1)) + (wrap64 ((wrap64 (bt a0 x6_1)) - 87)))) (wrap64 (x6_1 + 1))))))) else (if (-1) < 0 then (some (-1)) else (if (-1) ≥ a1 then (some (-1)) else (if a1 = 0 then (none) else (if x5_1 > (wrap64 ((9007199254740991 - (-1)) / a1)) then (some (-1)) else (spec_l01Value.l0 k1 a0 a1 (wrap64 ((wrap64 (x5_1 * a1)) + (-1))) (wrap64 (x6_1 + 1)))))))))) = some r := H
          have A6 := Aside0.mk A60
          clear A60
          by_cases c7 : t183 = true
          · subst c7
            have H1 : (if (wrap64 ((wrap64 (bt a0 x6_1)) - 48)) < 0 then (some (-1)) else (if (wrap64 ((wrap64 (bt a0 x6_1)) - 48)) ≥ a1 then (some (-1)) else (if a1 = 0 then (none) else (if x5_1 > (wrap64 (Int.tdiv (wrap64 (9007199254740991 - (wrap64 ((wrap64 (bt a0 x6_1)) - 48)))) a1)) then (some (-1)) else (spec_l01Value.l0 k1 a0 a1 (wrap64 ((wrap64 (x5_1 * a1)) + (wrap64 ((wrap64 (bt a0 x6_1)) - 48)))) (wrap64 (x6_1 + 1))))))) = some r := by rw [if_pos rfl] at H; exact H
            clear H
            have H := H1
            clear H1
            by_cases c9 : (wrap64 ((wrap64 (bt a0 x6_1)) - 48)) < 0
            · rw [if_pos c9] at H
              have c9b0 : decide ((wrap64 ((wrap64 (bt a0 x6_1)) - 48)) < 0) = true := decide_eq_true c9
              clear c9
              obtain rfl := Option.some.inj H
              have p5 : 0 ≤ (x6_1 : Int) := of_decide_eq_true (by assumption)
              have q5 : x6_1 < (a0.size : Int) := of_decide_eq_true (by assumption)
              have hx5 := bt_at a0 x6_1
              replace p5 := eq_true p5
              replace q5 := eq_true q5
              go_wp2_with (first | ((with_reducible refine gate_callee (f := 83) rfl ?_); refine goesL_ (some 19) rfl rfl Tryz.func83 (by kernel_rfl) rfl #[.int .i64 (wrap64 (bt a0 x6_1)), .int .i64 48, .int .i64 57] rfl (by (try simp only [List.map_toArray, List.map_cons, List.map_nil]); first | done | rfl | (simp only [List.length_drop, List.length_take]; rfl)) ?_; (with_reducible refine (spec_l01In.calls (wrap64 (bt a0 x6_1)) 48 57 true _ A6.out).mono ?_); rintro e w' ⟨rfl, ⟨nd, rfl⟩⟩; refine ⟨_, rfl, ?_⟩; have p8 : 0 ≤ (x6_1 : Int) := of_decide_eq_true (by assumption); have q8 : x6_1 < (a0.size : Int) := of_decide_eq_true (by assumption); have hx8 := bt_at a0 x6_1; replace p8 := eq_true p8; replace q8 := eq_true q8))
              go_ret
              exact ⟨by first | rfl | (simp; done) | (simp [*]; done), by repeat (first | exact Drawn0.refl _ | apply Drawn0.step)⟩
            · rw [if_neg c9] at H
              have c9b0 : decide ((wrap64 ((wrap64 (bt a0 x6_1)) - 48)) < 0) = false := decide_eq_false c9
              clear c9
              by_cases c10 : (wrap64 ((wrap64 (bt a0 x6_1)) - 48)) ≥ a1
              · rw [if_pos c10] at H
                have c10b0 : decide (a1 ≤ (wrap64 ((wrap64 (bt a0 x6_1)) - 48))) = true := decide_eq_true c10
                clear c10
                obtain rfl := Option.some.inj H
                have p5 : 0 ≤ (x6_1 : Int) := of_decide_eq_true (by assumption)
                have q5 : x6_1 < (a0.size : Int) := of_decide_eq_true (by assumption)
                have hx5 := bt_at a0 x6_1
                replace p5 := eq_true p5
                replace q5 := eq_true q5
                go_wp2_with (first | ((with_reducible refine gate_callee (f := 83) rfl ?_); refine goesL_ (some 19) rfl rfl Tryz.func83 (by kernel_rfl) rfl #[.int .i64 (wrap64 (bt a0 x6_1)), .int .i64 48, .int .i64 57] rfl (by (try simp only [List.map_toArray, List.map_cons, List.map_nil]); first | done | rfl | (simp only [List.length_drop, List.length_take]; rfl)) ?_; (with_reducible refine (spec_l01In.calls (wrap64 (bt a0 x6_1)) 48 57 true _ A6.out).mono ?_); rintro e w' ⟨rfl, ⟨nd, rfl⟩⟩; refine ⟨_, rfl, ?_⟩; have p8 : 0 ≤ (x6_1 : Int) := of_decide_eq_true (by assumption); have q8 : x6_1 < (a0.size : Int) := of_decide_eq_true (by assumption); have hx8 := bt_at a0 x6_1; replace p8 := eq_true p8; replace q8 := eq_true q8))
                go_ret
                exact ⟨by first | rfl | (simp; done) | (simp [*]; done), by repeat (first | exact Drawn0.refl _ | apply Drawn0.step)⟩
              · rw [if_neg c10] at H
                have c10b0 : decide (a1 ≤ (wrap64 ((wrap64 (bt a0 x6_1)) - 48))) = false := decide_eq_false c10
                clear c10
                by_cases c11 : a1 = 0
                · rw [if_pos c11] at H
                  exact absurd H (by simp)
                · rw [if_neg c11] at H
                  have c11b0 : (a1 == 0) = false := beq_eq_false_iff_ne.mpr c11
                  have c11b1 : (a1 != 0) = true := bne_iff_ne.mpr c11
                  by_cases c12 : x5_1 > (wrap64 (Int.tdiv (wrap64 (9007199254740991 - (wrap64 ((wrap64 (bt a0 x6_1)) - 48)))) a1))
                  · rw [if_pos c12] at H
                    have c12b0 : decide ((wrap64 (Int.tdiv (wrap64 (9007199254740991 - (wrap64 ((wrap64 (bt a0 x6_1)) - 48)))) a1)) < x5_1) = true := decide_eq_true c12
                    clear c12
                    obtain rfl := Option.some.inj H
                    have p5 : 0 ≤ (x6_1 : Int) := of_decide_eq_true (by assumption)
                    have q5 : x6_1 < (a0.size : Int) := of_decide_eq_true (by assumption)
                    have hx5 := bt_at a0 x6_1
                    replace p5 := eq_true p5
                    replace q5 := eq_true q5
                    go_wp2_with (first | ((with_reducible refine gate_callee (f := 83) rfl ?_); refine goesL_ (some 19) rfl rfl Tryz.func83 (by kernel_rfl) rfl #[.int .i64 (wrap64 (bt a0 x6_1)), .int .i64 48, .int .i64 57] rfl (by (try simp only [List.map_toArray, List.map_cons, List.map_nil]); first | done | rfl | (simp only [List.length_drop, List.length_take]; rfl)) ?_; (with_reducible refine (spec_l01In.calls (wrap64 (bt a0 x6_1)) 48 57 true _ A6.out).mono ?_); rintro e w' ⟨rfl, ⟨nd, rfl⟩⟩; refine ⟨_, rfl, ?_⟩; have p8 : 0 ≤ (x6_1 : Int) := of_decide_eq_true (by assumption); have q8 : x6_1 < (a0.size : Int) := of_decide_eq_true (by assumption); have hx8 := bt_at a0 x6_1; replace p8 := eq_true p8; replace q8 := eq_true q8))
                    go_ret
                    exact ⟨by first | rfl | (simp; done) | (simp [*]; done), by repeat (first | exact Drawn0.refl _ | apply Drawn0.step)⟩
                  · rw [if_neg c12] at H
                    have c12b0 : decide ((wrap64 (Int.tdiv (wrap64 (9007199254740991 - (wrap64 ((wrap64 (bt a0 x6_1)) - 48)))) a1)) < x5_1) = false := decide_eq_false c12
                    clear c12
                    have H' := Aside0.mk H
                    clear H
                    have p5 : 0 ≤ (x6_1 : Int) := of_decide_eq_true (by assumption)
                    have q5 : x6_1 < (a0.size : Int) := of_decide_eq_true (by assumption)
                    have hx5 := bt_at a0 x6_1
                    replace p5 := eq_true p5
                    replace q5 := eq_true q5
                    go_wp2_with (first | ((with_reducible refine gate_callee (f := 83) rfl ?_); refine goesL_ (some 19) rfl rfl Tryz.func83 (by kernel_rfl) rfl #[.int .i64 (wrap64 (bt a0 x6_1)), .int .i64 48, .int .i64 57] rfl (by (try simp only [List.map_toArray, List.map_cons, List.map_nil]); first | done | rfl | (simp only [List.length_drop, List.length_take]; rfl)) ?_; (with_reducible refine (spec_l01In.calls (wrap64 (bt a0 x6_1)) 48 57 true _ A6.out).mono ?_); rintro e w' ⟨rfl, ⟨nd, rfl⟩⟩; refine ⟨_, rfl, ?_⟩; have p8 : 0 ≤ (x6_1 : Int) := of_decide_eq_true (by assumption); have q8 : x6_1 < (a0.size : Int) := of_decide_eq_true (by assumption); have hx8 := bt_at a0 x6_1; replace p8 := eq_true p8; replace q8 := eq_true q8))
                    go_roundg k1
                    case measure => have := HK1.out; omega
                    case rel => exact ⟨(wrap64 ((wrap64 (x5_1 * a1)) + (wrap64 ((wrap64 (bt a0 x6_1)) - 48)))), (wrap64 (x6_1 + 1)), (by first | rfl | (simp; done) | (simp [*]; done)), (by first | rfl | (simp; done) | (simp [*]; done)), H', ⟨by have := HK1.out; omega⟩, by repeat (first | exact Drawn0.refl _ | apply Drawn0.step)⟩
          · replace c7 := Bool.eq_false_iff.mpr c7
            subst c7
            have H1 : ((spec_l01In.f (wrap64 (bt a0 x6_1)) 97 102).bind fun t184 => (if t184 = true then (if (wrap64 ((wrap64 (bt a0 x6_1)) - 87)) < 0 then (some (-1)) else (if (wrap64 ((wrap64 (bt a0 x6_1)) - 87)) ≥ a1 then (some (-1)) else (if a1 = 0 then (none) else (if x5_1 > (wrap64 (Int.tdiv (wrap64 (9007199254740991 - (wrap64 ((wrap64 (bt a0 x6_1)) - 87)))) a1)) then (some (-1)) else (spec_l01Value.l0 k1 a0 a1 (wrap64 ((wrap64 (x5_1 * a1)) + (wrap64 ((wrap64 (bt a0 x6_1)) - 87)))) (wrap64 (x6_1 + 1))))))) else (if (-1) < 0 then (some (-1)) else (if (-1) ≥ a1 then (some (-1)) else (if a1 = 0 then (none) else (if x5_1 > (wrap64 ((9007199254740991 - (-1)) / a1)) then (some (-1)) else (spec_l01Value.l0 k1 a0 a1 (wrap64 ((wrap64 (x5_1 * a1)) + (-1))) (wrap64 (x6_1 + 1))))))))) = some r := by rw [if_neg (show ¬ (false = true) by decide)] at H; exact H
            clear H
            have H := H1
            clear H1
            replace H := Option.bind_eq_some_iff.mp H
            obtain ⟨t184, A140, H⟩ := H
            replace H : (if t184 = true then (if (wrap64 ((wrap64 (bt a0 x6_1)) - 87)) < 0 then (some (-1)) else (if (wrap64 ((wrap64 (bt a0 x6_1)) - 87)) ≥ a1 then (some (-1)) else (if a1 = 0 then (none) else (if x5_1 > (wrap64 (Int.tdiv (wrap64 (9007199254740991 - (wrap64 ((wrap64 (bt a0 x6_1)) - 87)))) a1)) then (some (-1)) else (spec_l01Value.l0 k1 a0 a1 (wrap64 ((wrap64 (x5_1 * a1)) + (wrap64 ((wrap64 (bt a0 x6_1)) - 87)))) (wrap64 (x6_1 + 1))))))) else (if (-1) < 0 then (some (-1)) else (if (-1) ≥ a1 then (some (-1)) else (if a1 = 0 then (none) else (if x5_1 > (wrap64 ((9007199254740991 - (-1)) / a1)) then (some (-1)) else (spec_l01Value.l0 k1 a0 a1 (wrap64 ((wrap64 (x5_1 * a1)) + (-1))) (wrap64 (x6_1 + 1)))))))) = some r := H
            have A14 := Aside0.mk A140
            clear A140
            by_cases c15 : t184 = true
            · subst c15
              have H1 : (if (wrap64 ((wrap64 (bt a0 x6_1)) - 87)) < 0 then (some (-1)) else (if (wrap64 ((wrap64 (bt a0 x6_1)) - 87)) ≥ a1 then (some (-1)) else (if a1 = 0 then (none) else (if x5_1 > (wrap64 (Int.tdiv (wrap64 (9007199254740991 - (wrap64 ((wrap64 (bt a0 x6_1)) - 87)))) a1)) then (some (-1)) else (spec_l01Value.l0 k1 a0 a1 (wrap64 ((wrap64 (x5_1 * a1)) + (wrap64 ((wrap64 (bt a0 x6_1)) - 87)))) (wrap64 (x6_1 + 1))))))) = some r := by rw [if_pos rfl] at H; exact H
              clear H
              have H := H1
              clear H1
              by_cases c17 : (wrap64 ((wrap64 (bt a0 x6_1)) - 87)) < 0
              · rw [if_pos c17] at H
                have c17b0 : decide ((wrap64 ((wrap64 (bt a0 x6_1)) - 87)) < 0) = true := decide_eq_true c17
                clear c17
                obtain rfl := Option.some.inj H
                have p5 : 0 ≤ (x6_1 : Int) := of_decide_eq_true (by assumption)
                have q5 : x6_1 < (a0.size : Int) := of_decide_eq_true (by assumption)
                have hx5 := bt_at a0 x6_1
                replace p5 := eq_true p5
                replace q5 := eq_true q5
                go_wp2_with (first | ((with_reducible refine gate_callee (f := 83) rfl ?_); refine goesL_ (some 19) rfl rfl Tryz.func83 (by kernel_rfl) rfl #[.int .i64 (wrap64 (bt a0 x6_1)), .int .i64 48, .int .i64 57] rfl (by (try simp only [List.map_toArray, List.map_cons, List.map_nil]); first | done | rfl | (simp only [List.length_drop, List.length_take]; rfl)) ?_; (with_reducible refine (spec_l01In.calls (wrap64 (bt a0 x6_1)) 48 57 false _ A6.out).mono ?_); rintro e w' ⟨rfl, ⟨nd, rfl⟩⟩; refine ⟨_, rfl, ?_⟩; have p13 : 0 ≤ (x6_1 : Int) := of_decide_eq_true (by assumption); have q13 : x6_1 < (a0.size : Int) := of_decide_eq_true (by assumption); have hx13 := bt_at a0 x6_1; replace p13 := eq_true p13; replace q13 := eq_true q13) | ((with_reducible refine gate_callee (f := 83) rfl ?_); refine goesL_ (some 30) rfl rfl Tryz.func83 (by kernel_rfl) rfl #[.int .i64 (wrap64 (bt a0 x6_1)), .int .i64 97, .int .i64 102] rfl (by (try simp only [List.map_toArray, List.map_cons, List.map_nil]); first | done | rfl | (simp only [List.length_drop, List.length_take]; rfl)) ?_; (with_reducible refine (spec_l01In.calls (wrap64 (bt a0 x6_1)) 97 102 true _ A14.out).mono ?_); rintro e w' ⟨rfl, ⟨nd, rfl⟩⟩; refine ⟨_, rfl, ?_⟩; have p16 : 0 ≤ (x6_1 : Int) := of_decide_eq_true (by assumption); have q16 : x6_1 < (a0.size : Int) := of_decide_eq_true (by assumption); have hx16 := bt_at a0 x6_1; replace p16 := eq_true p16; replace q16 := eq_true q16))
                go_ret
                exact ⟨by first | rfl | (simp; done) | (simp [*]; done), by repeat (first | exact Drawn0.refl _ | apply Drawn0.step)⟩
              · rw [if_neg c17] at H
                have c17b0 : decide ((wrap64 ((wrap64 (bt a0 x6_1)) - 87)) < 0) = false := decide_eq_false c17
                clear c17
                by_cases c18 : (wrap64 ((wrap64 (bt a0 x6_1)) - 87)) ≥ a1
                · rw [if_pos c18] at H
                  have c18b0 : decide (a1 ≤ (wrap64 ((wrap64 (bt a0 x6_1)) - 87))) = true := decide_eq_true c18
                  clear c18
                  obtain rfl := Option.some.inj H
                  have p5 : 0 ≤ (x6_1 : Int) := of_decide_eq_true (by assumption)
                  have q5 : x6_1 < (a0.size : Int) := of_decide_eq_true (by assumption)
                  have hx5 := bt_at a0 x6_1
                  replace p5 := eq_true p5
                  replace q5 := eq_true q5
                  go_wp2_with (first | ((with_reducible refine gate_callee (f := 83) rfl ?_); refine goesL_ (some 19) rfl rfl Tryz.func83 (by kernel_rfl) rfl #[.int .i64 (wrap64 (bt a0 x6_1)), .int .i64 48, .int .i64 57] rfl (by (try simp only [List.map_toArray, List.map_cons, List.map_nil]); first | done | rfl | (simp only [List.length_drop, List.length_take]; rfl)) ?_; (with_reducible refine (spec_l01In.calls (wrap64 (bt a0 x6_1)) 48 57 false _ A6.out).mono ?_); rintro e w' ⟨rfl, ⟨nd, rfl⟩⟩; refine ⟨_, rfl, ?_⟩; have p13 : 0 ≤ (x6_1 : Int) := of_decide_eq_true (by assumption); have q13 : x6_1 < (a0.size : Int) := of_decide_eq_true (by assumption); have hx13 := bt_at a0 x6_1; replace p13 := eq_true p13; replace q13 := eq_true q13) | ((with_reducible refine gate_callee (f := 83) rfl ?_); refine goesL_ (some 30) rfl rfl Tryz.func83 (by kernel_rfl) rfl #[.int .i64 (wrap64 (bt a0 x6_1)), .int .i64 97, .int .i64 102] rfl (by (try simp only [List.map_toArray, List.map_cons, List.map_nil]); first | done | rfl | (simp only [List.length_drop, List.length_take]; rfl)) ?_; (with_reducible refine (spec_l01In.calls (wrap64 (bt a0 x6_1)) 97 102 true _ A14.out).mono ?_); rintro e w' ⟨rfl, ⟨nd, rfl⟩⟩; refine ⟨_, rfl, ?_⟩; have p16 : 0 ≤ (x6_1 : Int) := of_decide_eq_true (by assumption); have q16 : x6_1 < (a0.size : Int) := of_decide_eq_true (by assumption); have hx16 := bt_at a0 x6_1; replace p16 := eq_true p16; replace q16 := eq_true q16))
                  go_ret
                  exact ⟨by first | rfl | (simp; done) | (simp [*]; done), by repeat (first | exact Drawn0.refl _ | apply Drawn0.step)⟩
                · rw [if_neg c18] at H
                  have c18b0 : decide (a1 ≤ (wrap64 ((wrap64 (bt a0 x6_1)) - 87))) = false := decide_eq_false c18
                  clear c18
                  by_cases c19 : a1 = 0
                  · rw [if_pos c19] at H
                    exact absurd H (by simp)
                  · rw [if_neg c19] at H
                    have c19b0 : (a1 == 0) = false := beq_eq_false_iff_ne.mpr c19
                    have c19b1 : (a1 != 0) = true := bne_iff_ne.mpr c19
                    by_cases c20 : x5_1 > (wrap64 (Int.tdiv (wrap64 (9007199254740991 - (wrap64 ((wrap64 (bt a0 x6_1)) - 87)))) a1))
                    · rw [if_pos c20] at H
                      have c20b0 : decide ((wrap64 (Int.tdiv (wrap64 (9007199254740991 - (wrap64 ((wrap64 (bt a0 x6_1)) - 87)))) a1)) < x5_1) = true := decide_eq_true c20
                      clear c20
                      obtain rfl := Option.some.inj H
                      have p5 : 0 ≤ (x6_1 : Int) := of_decide_eq_true (by assumption)
                      have q5 : x6_1 < (a0.size : Int) := of_decide_eq_true (by assumption)
                      have hx5 := bt_at a0 x6_1
                      replace p5 := eq_true p5
                      replace q5 := eq_true q5
                      go_wp2_with (first | ((with_reducible refine gate_callee (f := 83) rfl ?_); refine goesL_ (some 19) rfl rfl Tryz.func83 (by kernel_rfl) rfl #[.int .i64 (wrap64 (bt a0 x6_1)), .int .i64 48, .int .i64 57] rfl (by (try simp only [List.map_toArray, List.map_cons, List.map_nil]); first | done | rfl | (simp only [List.length_drop, List.length_take]; rfl)) ?_; (with_reducible refine (spec_l01In.calls (wrap64 (bt a0 x6_1)) 48 57 false _ A6.out).mono ?_); rintro e w' ⟨rfl, ⟨nd, rfl⟩⟩; refine ⟨_, rfl, ?_⟩; have p13 : 0 ≤ (x6_1 : Int) := of_decide_eq_true (by assumption); have q13 : x6_1 < (a0.size : Int) := of_decide_eq_true (by assumption); have hx13 := bt_at a0 x6_1; replace p13 := eq_true p13; replace q13 := eq_true q13) | ((with_reducible refine gate_callee (f := 83) rfl ?_); refine goesL_ (some 30) rfl rfl Tryz.func83 (by kernel_rfl) rfl #[.int .i64 (wrap64 (bt a0 x6_1)), .int .i64 97, .int .i64 102] rfl (by (try simp only [List.map_toArray, List.map_cons, List.map_nil]); first | done | rfl | (simp only [List.length_drop, List.length_take]; rfl)) ?_; (with_reducible refine (spec_l01In.calls (wrap64 (bt a0 x6_1)) 97 102 true _ A14.out).mono ?_); rintro e w' ⟨rfl, ⟨nd, rfl⟩⟩; refine ⟨_, rfl, ?_⟩; have p16 : 0 ≤ (x6_1 : Int) := of_decide_eq_true (by assumption); have q16 : x6_1 < (a0.size : Int) := of_decide_eq_true (by assumption); have hx16 := bt_at a0 x6_1; replace p16 := eq_true p16; replace q16 := eq_true q16))
                      go_ret
                      exact ⟨by first | rfl | (simp; done) | (simp [*]; done), by repeat (first | exact Drawn0.refl _ | apply Drawn0.step)⟩
                    · rw [if_neg c20] at H
                      have c20b0 : decide ((wrap64 (Int.tdiv (wrap64 (9007199254740991 - (wrap64 ((wrap64 (bt a0 x6_1)) - 87)))) a1)) < x5_1) = false := decide_eq_false c20
                      clear c20
                      have H' := Aside0.mk H
                      clear H
                      have p5 : 0 ≤ (x6_1 : Int) := of_decide_eq_true (by assumption)
                      have q5 : x6_1 < (a0.size : Int) := of_decide_eq_true (by assumption)
                      have hx5 := bt_at a0 x6_1
                      replace p5 := eq_true p5
                      replace q5 := eq_true q5
                      go_wp2_with (first | ((with_reducible refine gate_callee (f := 83) rfl ?_); refine goesL_ (some 19) rfl rfl Tryz.func83 (by kernel_rfl) rfl #[.int .i64 (wrap64 (bt a0 x6_1)), .int .i64 48, .int .i64 57] rfl (by (try simp only [List.map_toArray, List.map_cons, List.map_nil]); first | done | rfl | (simp only [List.length_drop, List.length_take]; rfl)) ?_; (with_reducible refine (spec_l01In.calls (wrap64 (bt a0 x6_1)) 48 57 false _ A6.out).mono ?_); rintro e w' ⟨rfl, ⟨nd, rfl⟩⟩; refine ⟨_, rfl, ?_⟩; have p13 : 0 ≤ (x6_1 : Int) := of_decide_eq_true (by assumption); have q13 : x6_1 < (a0.size : Int) := of_decide_eq_true (by assumption); have hx13 := bt_at a0 x6_1; replace p13 := eq_true p13; replace q13 := eq_true q13) | ((with_reducible refine gate_callee (f := 83) rfl ?_); refine goesL_ (some 30) rfl rfl Tryz.func83 (by kernel_rfl) rfl #[.int .i64 (wrap64 (bt a0 x6_1)), .int .i64 97, .int .i64 102] rfl (by (try simp only [List.map_toArray, List.map_cons, List.map_nil]); first | done | rfl | (simp only [List.length_drop, List.length_take]; rfl)) ?_; (with_reducible refine (spec_l01In.calls (wrap64 (bt a0 x6_1)) 97 102 true _ A14.out).mono ?_); rintro e w' ⟨rfl, ⟨nd, rfl⟩⟩; refine ⟨_, rfl, ?_⟩; have p16 : 0 ≤ (x6_1 : Int) := of_decide_eq_true (by assumption); have q16 : x6_1 < (a0.size : Int) := of_decide_eq_true (by assumption); have hx16 := bt_at a0 x6_1; replace p16 := eq_true p16; replace q16 := eq_true q16))
                      go_roundg k1
                      case measure => have := HK1.out; omega
                      case rel => exact ⟨(wrap64 ((wrap64 (x5_1 * a1)) + (wrap64 ((wrap64 (bt a0 x6_1)) - 87)))), (wrap64 (x6_1 + 1)), (by first | rfl | (simp; done) | (simp [*]; done)), (by first | rfl | (simp; done) | (simp [*]; done)), H', ⟨by have := HK1.out; omega⟩, by repeat (first | exact Drawn0.refl _ | apply Drawn0.step)⟩
            · replace c15 := Bool.eq_false_iff.mpr c15
              subst c15
              have H1 : (if (-1) < 0 then (some (-1)) else (if (-1) ≥ a1 then (some (-1)) else (if a1 = 0 then (none) else (if x5_1 > (wrap64 ((9007199254740991 - (-1)) / a1)) then (some (-1)) else (spec_l01Value.l0 k1 a0 a1 (wrap64 ((wrap64 (x5_1 * a1)) + (-1))) (wrap64 (x6_1 + 1))))))) = some r := by rw [if_neg (show ¬ (false = true) by decide)] at H; exact H
              clear H
              have H := H1
              clear H1
              by_cases c21 : (-1) < 0
              · rw [if_pos c21] at H
                have c21b0 : decide ((-1) < 0) = true := decide_eq_true c21
                clear c21
                obtain rfl := Option.some.inj H
                have p5 : 0 ≤ (x6_1 : Int) := of_decide_eq_true (by assumption)
                have q5 : x6_1 < (a0.size : Int) := of_decide_eq_true (by assumption)
                have hx5 := bt_at a0 x6_1
                replace p5 := eq_true p5
                replace q5 := eq_true q5
                go_wp2_with (first | ((with_reducible refine gate_callee (f := 83) rfl ?_); refine goesL_ (some 19) rfl rfl Tryz.func83 (by kernel_rfl) rfl #[.int .i64 (wrap64 (bt a0 x6_1)), .int .i64 48, .int .i64 57] rfl (by (try simp only [List.map_toArray, List.map_cons, List.map_nil]); first | done | rfl | (simp only [List.length_drop, List.length_take]; rfl)) ?_; (with_reducible refine (spec_l01In.calls (wrap64 (bt a0 x6_1)) 48 57 false _ A6.out).mono ?_); rintro e w' ⟨rfl, ⟨nd, rfl⟩⟩; refine ⟨_, rfl, ?_⟩; have p13 : 0 ≤ (x6_1 : Int) := of_decide_eq_true (by assumption); have q13 : x6_1 < (a0.size : Int) := of_decide_eq_true (by assumption); have hx13 := bt_at a0 x6_1; replace p13 := eq_true p13; replace q13 := eq_true q13) | ((with_reducible refine gate_callee (f := 83) rfl ?_); refine goesL_ (some 30) rfl rfl Tryz.func83 (by kernel_rfl) rfl #[.int .i64 (wrap64 (bt a0 x6_1)), .int .i64 97, .int .i64 102] rfl (by (try simp only [List.map_toArray, List.map_cons, List.map_nil]); first | done | rfl | (simp only [List.length_drop, List.length_take]; rfl)) ?_; (with_reducible refine (spec_l01In.calls (wrap64 (bt a0 x6_1)) 97 102 false _ A14.out).mono ?_); rintro e w' ⟨rfl, ⟨nd, rfl⟩⟩; refine ⟨_, rfl, ?_⟩))
                go_ret
                exact ⟨by first | rfl | (simp; done) | (simp [*]; done), by repeat (first | exact Drawn0.refl _ | apply Drawn0.step)⟩
              · exact absurd (by decide) c21
        · rw [if_neg c4] at H
          exact absurd H (by simp)
      · rw [if_neg c3] at H
        have c3b0 : decide (x6_1 < (a0.size : Int)) = false := decide_eq_false c3
        clear c3
        obtain rfl := Option.some.inj H
        go_wp2
        go_ret
        exact ⟨by first | rfl | (simp; done) | (simp [*]; done), by repeat (first | exact Drawn0.refl _ | apply Drawn0.step)⟩

/-! ### spec_GetOct: function 10 -/
def spec_GetOct.f (k : Nat) (a0 : ByteArray) : Option (Int × Bool) := (spec_l01In.f (a0.size : Int) 1 20).bind fun t185 => (if t185 = true then ((spec_l01Value.f k a0 8).bind fun t186 => (if t186 < 0 then (some (0, false)) else (some (t186, true)))) else (some (0, false)))
theorem spec_GetOct.mono : ∀ a0 k, LeO (spec_GetOct.f k a0) (spec_GetOct.f (k + 1) a0) := by
  intro a0 k
  unfold spec_GetOct.f
  repeat' first
      | (with_reducible exact spec_l01Value.mono _ _ _)
      | (with_reducible exact LeO.refl _)
      | (with_reducible exact LeO.none _)
      | (with_reducible refine LeO.ite ?_ ?_)
      | (with_reducible refine LeO.bind ?_ (fun _ => ?_))
      | exact spec_l01Value.mono _ _ _
      | exact LeO.none _
      | refine LeO.ite ?_ ?_
      | refine LeO.bind ?_ (fun _ => ?_)
set_option maxHeartbeats 8000000 in
set_option maxRecDepth 100000 in
theorem spec_GetOct.calls (k : Nat) (a0 : ByteArray) (r1 : Int) (r2 : Bool) (w : World) (h : spec_GetOct.f k a0 = some (r1, r2)) :
    Calls Tryz.prog 10 #[.string a0] w fun e w' => e = .returned (.tuple #[.int .i64 r1, .bool r2]) ∧ Drawn0 w w' := by
  have H : ((spec_l01In.f (a0.size : Int) 1 20).bind fun t185 => (if t185 = true then ((spec_l01Value.f k a0 8).bind fun t186 => (if t186 < 0 then (some (0, false)) else (some (t186, true)))) else (some (0, false)))) = some (r1, r2) := h
  clear h
  replace H := Option.bind_eq_some_iff.mp H
  obtain ⟨t185, A20, H⟩ := H
  replace H : (if t185 = true then ((spec_l01Value.f k a0 8).bind fun t186 => (if t186 < 0 then (some (0, false)) else (some (t186, true)))) else (some (0, false))) = some (r1, r2) := H
  have A2 := Aside0.mk A20
  clear A20
  by_cases c3 : t185 = true
  · subst c3
    have H1 : ((spec_l01Value.f k a0 8).bind fun t186 => (if t186 < 0 then (some (0, false)) else (some (t186, true)))) = some (r1, r2) := by rw [if_pos rfl] at H; exact H
    clear H
    have H := H1
    clear H1
    replace H := Option.bind_eq_some_iff.mp H
    obtain ⟨t186, A40, H⟩ := H
    replace H : (if t186 < 0 then (some (0, false)) else (some (t186, true))) = some (r1, r2) := H
    have A4 := Aside0.mk A40
    clear A40
    by_cases c5 : t186 < 0
    · rw [if_pos c5] at H
      have c5b0 : decide (t186 < 0) = true := decide_eq_true c5
      clear c5
      simp only [Option.some.injEq, Prod.mk.injEq] at H
      obtain ⟨rfl, rfl⟩ := H
      go_enter Tryz.func10, Tryz.ntmps10
      go_wp2_with (first | ((with_reducible refine gate_callee (f := 83) rfl ?_); refine goesL_ (some 7) rfl rfl Tryz.func83 (by kernel_rfl) rfl #[.int .i64 (a0.size : Int), .int .i64 1, .int .i64 20] rfl (by (try simp only [List.map_toArray, List.map_cons, List.map_nil]); first | done | rfl | (simp only [List.length_drop, List.length_take]; rfl)) ?_; (with_reducible refine (spec_l01In.calls (a0.size : Int) 1 20 true _ A2.out).mono ?_); rintro e w' ⟨rfl, ⟨nd, rfl⟩⟩; refine ⟨_, rfl, ?_⟩) | ((with_reducible refine gate_callee (f := 84) rfl ?_); refine goesL_ (some 10) rfl rfl Tryz.func84 (by kernel_rfl) rfl #[.string a0, .int .i64 8] rfl (by (try simp only [List.map_toArray, List.map_cons, List.map_nil]); first | done | rfl | (simp only [List.length_drop, List.length_take]; rfl)) ?_; (with_reducible refine (spec_l01Value.calls k a0 8 t186 _ A4.out).mono ?_); rintro e w' ⟨rfl, ⟨nd, rfl⟩⟩; refine ⟨_, rfl, ?_⟩))
      go_ret2
      exact ⟨by first | rfl | (simp; done) | (simp [*]; done), by repeat (first | exact Drawn0.refl _ | apply Drawn0.step)⟩
    · rw [if_neg c5] at H
      have c5b0 : decide (t186 < 0) = false := decide_eq_false c5
      clear c5
      simp only [Option.some.injEq, Prod.mk.injEq] at H
      obtain ⟨rfl, rfl⟩ := H
      go_enter Tryz.func10, Tryz.ntmps10
      go_wp2_with (first | ((with_reducible refine gate_callee (f := 83) rfl ?_); refine goesL_ (some 7) rfl rfl Tryz.func83 (by kernel_rfl) rfl #[.int .i64 (a0.size : Int), .int .i64 1, .int .i64 20] rfl (by (try simp only [List.map_toArray, List.map_cons, List.map_nil]); first | done | rfl | (simp only [List.length_drop, List.length_take]; rfl)) ?_; (with_reducible refine (spec_l01In.calls (a0.size : Int) 1 20 true _ A2.out).mono ?_); rintro e w' ⟨rfl, ⟨nd, rfl⟩⟩; refine ⟨_, rfl, ?_⟩) | ((with_reducible refine gate_callee (f := 84) rfl ?_); refine goesL_ (some 10) rfl rfl Tryz.func84 (by kernel_rfl) rfl #[.string a0, .int .i64 8] rfl (by (try simp only [List.map_toArray, List.map_cons, List.map_nil]); first | done | rfl | (simp only [List.length_drop, List.length_take]; rfl)) ?_; (with_reducible refine (spec_l01Value.calls k a0 8 t186 _ A4.out).mono ?_); rintro e w' ⟨rfl, ⟨nd, rfl⟩⟩; refine ⟨_, rfl, ?_⟩))
      go_ret2
      exact ⟨by first | rfl | (simp; done) | (simp [*]; done), by repeat (first | exact Drawn0.refl _ | apply Drawn0.step)⟩
  · replace c3 := Bool.eq_false_iff.mpr c3
    subst c3
    have H1 : (some (0, false)) = some (r1, r2) := by rw [if_neg (show ¬ (false = true) by decide)] at H; exact H
    clear H
    have H := H1
    clear H1
    simp only [Option.some.injEq, Prod.mk.injEq] at H
    obtain ⟨rfl, rfl⟩ := H
    go_enter Tryz.func10, Tryz.ntmps10
    go_wp2_with (first | ((with_reducible refine gate_callee (f := 83) rfl ?_); refine goesL_ (some 7) rfl rfl Tryz.func83 (by kernel_rfl) rfl #[.int .i64 (a0.size : Int), .int .i64 1, .int .i64 20] rfl (by (try simp only [List.map_toArray, List.map_cons, List.map_nil]); first | done | rfl | (simp only [List.length_drop, List.length_take]; rfl)) ?_; (with_reducible refine (spec_l01In.calls (a0.size : Int) 1 20 false _ A2.out).mono ?_); rintro e w' ⟨rfl, ⟨nd, rfl⟩⟩; refine ⟨_, rfl, ?_⟩))
    go_ret2
    exact ⟨by first | rfl | (simp; done) | (simp [*]; done), by repeat (first | exact Drawn0.refl _ | apply Drawn0.step)⟩

/-! ### spec_PutHex: function 71 -/
def spec_PutHex.f (k : Nat) (a0 : Int) : Option (ByteArray × Bool) := (spec_l01In.f a0 0 4294967295).bind fun t187 => (if t187 = true then ((spec_l01Digits.f k a0 16).bind fun t188 => ((spec_l01Ahead.f k t188 8 (⟨#[48]⟩ : ByteArray)).bind fun t189 => (some (t189, true)))) else (some ((⟨#[]⟩ : ByteArray), false)))
theorem spec_PutHex.mono : ∀ a0 k, LeO (spec_PutHex.f k a0) (spec_PutHex.f (k + 1) a0) := by
  intro a0 k
  unfold spec_PutHex.f
  repeat' first
      | (with_reducible exact spec_l01Ahead.mono _ _ _ _)
      | (with_reducible exact spec_l01Digits.mono _ _ _)
      | (with_reducible exact LeO.refl _)
      | (with_reducible exact LeO.none _)
      | (with_reducible refine LeO.ite ?_ ?_)
      | (with_reducible refine LeO.bind ?_ (fun _ => ?_))
      | exact spec_l01Ahead.mono _ _ _ _
      | exact spec_l01Digits.mono _ _ _
      | exact LeO.none _
      | refine LeO.ite ?_ ?_
      | refine LeO.bind ?_ (fun _ => ?_)
set_option maxHeartbeats 8000000 in
set_option maxRecDepth 100000 in
theorem spec_PutHex.calls (k : Nat) (a0 : Int) (r1 : ByteArray) (r2 : Bool) (w : World) (h : spec_PutHex.f k a0 = some (r1, r2)) :
    Calls Tryz.prog 71 #[.int .i64 a0] w fun e w' => e = .returned (.tuple #[.string r1, .bool r2]) ∧ Drawn0 w w' := by
  have H : ((spec_l01In.f a0 0 4294967295).bind fun t187 => (if t187 = true then ((spec_l01Digits.f k a0 16).bind fun t188 => ((spec_l01Ahead.f k t188 8 (⟨#[48]⟩ : ByteArray)).bind fun t189 => (some (t189, true)))) else (some ((⟨#[]⟩ : ByteArray), false)))) = some (r1, r2) := h
  clear h
  replace H := Option.bind_eq_some_iff.mp H
  obtain ⟨t187, A20, H⟩ := H
  replace H : (if t187 = true then ((spec_l01Digits.f k a0 16).bind fun t188 => ((spec_l01Ahead.f k t188 8 (⟨#[48]⟩ : ByteArray)).bind fun t189 => (some (t189, true)))) else (some ((⟨#[]⟩ : ByteArray), false))) = some (r1, r2) := H
  have A2 := Aside0.mk A20
  clear A20
  by_cases c3 : t187 = true
  · subst c3
    have H1 : ((spec_l01Digits.f k a0 16).bind fun t188 => ((spec_l01Ahead.f k t188 8 (⟨#[48]⟩ : ByteArray)).bind fun t189 => (some (t189, true)))) = some (r1, r2) := by rw [if_pos rfl] at H; exact H
    clear H
    have H := H1
    clear H1
    replace H := Option.bind_eq_some_iff.mp H
    obtain ⟨t188, A40, H⟩ := H
    replace H : ((spec_l01Ahead.f k t188 8 (⟨#[48]⟩ : ByteArray)).bind fun t189 => (some (t189, true))) = some (r1, r2) := H
    have A4 := Aside0.mk A40
    clear A40
    replace H := Option.bind_eq_some_iff.mp H
    obtain ⟨t189, A50, H⟩ := H
    replace H : (some (t189, true)) = some (r1, r2) := H
    have A5 := Aside0.mk A50
    clear A50
    simp only [Option.some.injEq, Prod.mk.injEq] at H
    obtain ⟨rfl, rfl⟩ := H
    go_enter Tryz.func71, Tryz.ntmps71
    go_wp2_with (first | ((with_reducible refine gate_callee (f := 83) rfl ?_); refine goesL_ (some 5) rfl rfl Tryz.func83 (by kernel_rfl) rfl #[.int .i64 a0, .int .i64 0, .int .i64 4294967295] rfl (by (try simp only [List.map_toArray, List.map_cons, List.map_nil]); first | done | rfl | (simp only [List.length_drop, List.length_take]; rfl)) ?_; (with_reducible refine (spec_l01In.calls a0 0 4294967295 true _ A2.out).mono ?_); rintro e w' ⟨rfl, ⟨nd, rfl⟩⟩; refine ⟨_, rfl, ?_⟩) | ((with_reducible refine gate_callee (f := 133) rfl ?_); refine goesL_ (some 8) rfl rfl Tryz.func133 (by kernel_rfl) rfl #[.int .i64 a0, .int .i64 16] rfl (by (try simp only [List.map_toArray, List.map_cons, List.map_nil]); first | done | rfl | (simp only [List.length_drop, List.length_take]; rfl)) ?_; (with_reducible refine (spec_l01Digits.calls k a0 16 t188 _ A4.out).mono ?_); rintro e w' ⟨rfl, ⟨nd, rfl⟩⟩; refine ⟨_, rfl, ?_⟩) | ((with_reducible refine gate_callee (f := 132) rfl ?_); refine goesL_ (some 9) rfl rfl Tryz.func132 (by kernel_rfl) rfl #[.string t188, .int .i64 8, .string (⟨#[48]⟩ : ByteArray)] rfl (by (try simp only [List.map_toArray, List.map_cons, List.map_nil]); first | done | rfl | (simp only [List.length_drop, List.length_take]; rfl)) ?_; (with_reducible refine (spec_l01Ahead.calls k t188 8 (⟨#[48]⟩ : ByteArray) t189 _ A5.out).mono ?_); rintro e w' ⟨rfl, ⟨nd, rfl⟩⟩; refine ⟨_, rfl, ?_⟩))
    go_ret2
    exact ⟨by first | rfl | (simp; done) | (simp [*]; done), by repeat (first | exact Drawn0.refl _ | apply Drawn0.step)⟩
  · replace c3 := Bool.eq_false_iff.mpr c3
    subst c3
    have H1 : (some ((⟨#[]⟩ : ByteArray), false)) = some (r1, r2) := by rw [if_neg (show ¬ (false = true) by decide)] at H; exact H
    clear H
    have H := H1
    clear H1
    simp only [Option.some.injEq, Prod.mk.injEq] at H
    obtain ⟨rfl, rfl⟩ := H
    go_enter Tryz.func71, Tryz.ntmps71
    go_wp2_with (first | ((with_reducible refine gate_callee (f := 83) rfl ?_); refine goesL_ (some 5) rfl rfl Tryz.func83 (by kernel_rfl) rfl #[.int .i64 a0, .int .i64 0, .int .i64 4294967295] rfl (by (try simp only [List.map_toArray, List.map_cons, List.map_nil]); first | done | rfl | (simp only [List.length_drop, List.length_take]; rfl)) ?_; (with_reducible refine (spec_l01In.calls a0 0 4294967295 false _ A2.out).mono ?_); rintro e w' ⟨rfl, ⟨nd, rfl⟩⟩; refine ⟨_, rfl, ?_⟩))
    go_ret2
    exact ⟨by first | rfl | (simp; done) | (simp [*]; done), by repeat (first | exact Drawn0.refl _ | apply Drawn0.step)⟩

/-! ### spec_DrawGetHex: function 11 -/
def spec_DrawGetHex.f (k : Nat) (l0 : List Int) : Option (ByteArray) := (spec_l01New.f k l0).bind fun bt190 => ((spec_l01Num.f bt190.1 bt190.2.1 bt190.2.2).bind fun bt194 => ((spec_PutHex.f k bt194.1).bind fun bt197 => ((spec_l01Bent.f bt190.1 bt194.2.1 bt194.2.2 bt197.1).bind fun bt199 => (some bt199.1))))
theorem spec_DrawGetHex.mono : ∀ a0 k, LeO (spec_DrawGetHex.f k a0) (spec_DrawGetHex.f (k + 1) a0) := by
  intro a0 k
  unfold spec_DrawGetHex.f
  repeat' first
      | (with_reducible exact spec_PutHex.mono _ _)
      | (with_reducible exact spec_l01New.mono _ _)
      | (with_reducible exact LeO.refl _)
      | (with_reducible exact LeO.none _)
      | (with_reducible refine LeO.ite ?_ ?_)
      | (with_reducible refine LeO.bind ?_ (fun _ => ?_))
      | exact spec_PutHex.mono _ _
      | exact spec_l01New.mono _ _
      | exact LeO.none _
      | refine LeO.ite ?_ ?_
      | refine LeO.bind ?_ (fun _ => ?_)
set_option maxHeartbeats 8000000 in
set_option maxRecDepth 100000 in
theorem spec_DrawGetHex.calls (k : Nat) (A0 : Option Addr) (c0 : Nat) (l0 : List Int) (r : ByteArray) (w : World) (hr0 : Kd.C (Kd.int .u8) w A0 l0.length l0) (hc0 : l0.length ≤ c0) (h : spec_DrawGetHex.f k l0 = some r) :
    Calls Tryz.prog 11 #[.slice A0 l0.length c0] w fun e w' => e = .returned (.string r) ∧ Below w.heap.size w w' := by
  have HR0 := Aside0.mk hr0
  have HC0 := Aside0.mk hc0
  clear hr0 hc0
  have HB := Aside0.mk (Below.refl w.heap.size w)
  have H : ((spec_l01New.f k l0).bind fun bt190 => ((spec_l01Num.f bt190.1 bt190.2.1 bt190.2.2).bind fun bt194 => ((spec_PutHex.f k bt194.1).bind fun bt197 => ((spec_l01Bent.f bt190.1 bt194.2.1 bt194.2.2 bt197.1).bind fun bt199 => (some bt199.1))))) = some r := h
  clear h
  replace H := Option.bind_eq_some_iff.mp H
  obtain ⟨⟨t190, t191, t192⟩, A20, H⟩ := H
  replace H : ((spec_l01Num.f t190 t191 t192).bind fun bt194 => ((spec_PutHex.f k bt194.1).bind fun bt197 => ((spec_l01Bent.f t190 bt194.2.1 bt194.2.2 bt197.1).bind fun bt199 => (some bt199.1)))) = some r := H
  have A2 := Aside0.mk A20
  clear A20
  replace H := Option.bind_eq_some_iff.mp H
  obtain ⟨⟨t194, t195, t196⟩, A30, H⟩ := H
  replace H : ((spec_PutHex.f k t194).bind fun bt197 => ((spec_l01Bent.f t190 t195 t196 bt197.1).bind fun bt199 => (some bt199.1))) = some r := H
  have A3 := Aside0.mk A30
  clear A30
  replace H := Option.bind_eq_some_iff.mp H
  obtain ⟨⟨t197, t198⟩, A40, H⟩ := H
  replace H : ((spec_l01Bent.f t190 t195 t196 t197).bind fun bt199 => (some bt199.1)) = some r := H
  have A4 := Aside0.mk A40
  clear A40
  replace H := Option.bind_eq_some_iff.mp H
  obtain ⟨⟨t199, t200, t201⟩, A50, H⟩ := H
  replace H : (some t199) = some r := H
  have A5 := Aside0.mk A50
  clear A50
  obtain rfl := Option.some.inj H
  go_enter Tryz.func11, Tryz.ntmps11
  go_wp2_with (first | ((with_reducible refine gate_callee (f := 76) rfl ?_); refine goesL_ (some 7) rfl rfl Tryz.func76 (by kernel_rfl) rfl #[.slice A0 l0.length c0] rfl (by (try simp only [List.map_toArray, List.map_cons, List.map_nil]); first | done | rfl | (simp only [List.length_drop, List.length_take]; rfl)) ?_; (with_reducible refine (spec_l01New.calls k _ _ l0 t190 t191 t192 w _ ?side1 ?side2 ?side3 A2.out).mono ?_); (case side1 => repeat (first | (with_reducible first | exact HB.out | apply below_alloc | apply pw_below_drewN | apply below_drew1) | exact HB.out)); (case side2 => exact HR0.out); (case side3 => exact HC0.out); rintro e w6 ⟨g193, rfl, hi, hb, hb2⟩; refine ⟨_, rfl, ?_⟩; have n0_ := Aside0.mk (hb); have n1_ := Aside0.mk (hi); clear HB; have HB := n0_; have HI193 := n1_; clear n0_ n1_; (try clear hb); (try clear hb2); (try clear hk); (try clear hi)) | ((with_reducible refine gate_callee (f := 77) rfl ?_); refine goesL_ (some 10) rfl rfl Tryz.func77 (by kernel_rfl) rfl #[.pointer (some ⟨g193, 0, none⟩)] rfl (by (try simp only [List.map_toArray, List.map_cons, List.map_nil]); first | done | rfl | (simp only [List.length_drop, List.length_take]; rfl)) ?_; (with_reducible refine (spec_l01Num.calls g193 t190 t191 t192 t194 t195 t196 w _ ?side1 ?side2 A3.out).mono ?_); (case side1 => repeat (first | (with_reducible first | exact HI193.out | apply IsS113.alloc | apply IsS113.drewN | apply IsS113.drew | apply IsS113.set_1 | apply IsS113.set_2) | exact HI193.out)); (case side2 => repeat (first | (with_reducible first | exact HB.out | apply below_alloc | apply pw_below_drewN | apply below_drew1 | refine below_set ?_ (IsS113.ge HI193.out)) | exact HB.out)); rintro e w7 ⟨rfl, hi, hb, hk⟩; refine ⟨_, rfl, ?_⟩; have n0_ := Aside0.mk (hb); have n1_ := Aside0.mk (hi); clear HB; clear HI193; have HB := n0_; have HI193 := n1_; clear n0_ n1_; (try clear hb); (try clear hb2); (try clear hk); (try clear hi)) | ((with_reducible refine gate_callee (f := 71) rfl ?_); refine goesL_ (some 11) rfl rfl Tryz.func71 (by kernel_rfl) rfl #[.int .i64 t194] rfl (by (try simp only [List.map_toArray, List.map_cons, List.map_nil]); first | done | rfl | (simp only [List.length_drop, List.length_take]; rfl)) ?_; (with_reducible refine (spec_PutHex.calls k t194 t197 t198 _ A4.out).mono ?_); rintro e w' ⟨rfl, ⟨nd, rfl⟩⟩; refine ⟨_, rfl, ?_⟩) | ((with_reducible refine gate_callee (f := 79) rfl ?_); refine goesL_ (some 16) rfl rfl Tryz.func79 (by kernel_rfl) rfl #[.pointer (some ⟨g193, 0, none⟩), .string t197] rfl (by (try simp only [List.map_toArray, List.map_cons, List.map_nil]); first | done | rfl | (simp only [List.length_drop, List.length_take]; rfl)) ?_; (with_reducible refine (spec_l01Bent.calls g193 t190 t195 t196 t197 t199 t200 t201 w _ ?side1 ?side2 A5.out).mono ?_); (case side1 => repeat (first | (with_reducible first | exact HI193.out | apply IsS113.alloc | apply IsS113.drewN | apply IsS113.drew | apply IsS113.set_1 | apply IsS113.set_2) | exact HI193.out)); (case side2 => repeat (first | (with_reducible first | exact HB.out | apply below_alloc | apply pw_below_drewN | apply below_drew1 | refine below_set ?_ (IsS113.ge HI193.out)) | exact HB.out)); rintro e w8 ⟨rfl, hi, hb, hk⟩; refine ⟨_, rfl, ?_⟩; have n0_ := Aside0.mk (hb); have n1_ := Aside0.mk (hi); clear HB; clear HI193; have HB := n0_; have HI193 := n1_; clear n0_ n1_; (try clear hb); (try clear hb2); (try clear hk); (try clear hi)))
  go_ret
  exact ⟨by first | rfl | (simp [errW_none, errW_some] <;> rfl) | (simp [*, errW_none, errW_some] <;> rfl) | (simp only [decide_eq_true_eq] at *; simp [*, bt]; done), by repeat (first | (with_reducible first | exact HB.out | apply below_alloc | apply pw_below_drewN | apply below_drew1 | refine below_set ?_ (IsS113.ge HI193.out)) | exact HB.out)⟩

end Go.Proofs.YtdjepilhenijeaaGreatDoor.PFnReads
