-- PRINTED for this claim by a program of this session's repo over the kit's printer, with contracts of our own among the functions.
import Derived.Test.YtmdmhcganiaogaaDoorPFnExactGetOctx0
import Derived.Test.YtmdmhcganiaogaaDoorPFnExactGetOctx1
namespace Go.Proofs.YtmdmhcganiaogaaDoor.PFnExactGetOct
open Go.RowKit Go.Proofs.YtmdmhcganiaogaaDoorW.PrintWords Go.Proofs.YtmdmhcganiaogaaDoorW.PrintLast Go.Proofs.YtmdmhcganiaogaaDoorW.PrintMore
attribute [local go_sem] max2_int min2_int max_two min_two max_three min_three max_four min_four   -- for this text's walks alone
set_option linter.unusedVariables false
set_option linter.unusedSimpArgs false

/-! ### impl_areDigits: function 53, by a contract of our own -/
/-- The digits of a base. -/
def digs : List UInt8 := [48, 49, 50, 51, 52, 53, 54, 55, 56, 57, 97, 98, 99, 100, 101, 102]
def pDig (b : Nat) (x : Int) : Bool := (digs.take b).contains x.toNat.toUInt8
theorem indexByte_has (c : UInt8) : ∀ l : List UInt8, decide (0 ≤ Lib.indexByte l c) = l.contains c
  | [] => rfl
  | b :: l => by
    have h := indexByte_has c l
    have g := Lib.indexByte_ge l c
    unfold Lib.indexByte
    rw [List.contains_cons]
    by_cases hb : b = c
    · subst hb
      simp
    · have h1 : (b == c) = false := by simpa using hb
      have h2 : (c == b) = false := by simpa using fun e : c = b => hb e.symm
      rw [h1, h2, Bool.false_or, ← h, if_neg (by decide)]
      by_cases hn : Lib.indexByte l c = -1
      · rw [hn]
        rfl
      · have h3 : (Lib.indexByte l c == -1) = false := by simpa using hn
        rw [h3, if_neg (by decide)]
        congr 1
        apply propext
        constructor <;> intro <;> omega
set_option maxRecDepth 100000 in
theorem indexByte_calls (a0 : ByteArray) (a1 : Int) (w : World) :
    Calls Tryd.prog 96 #[.string a0, .int .u8 a1] w fun e w' => e = .returned (.int .i64 (Lib.indexByte a0.data.toList a1.toNat.toUInt8)) ∧ ∃ q, w' = w.drewN q := by
  have hI := fun W => stringslite_IndexByte.calls a0 a1 _ W rfl
  go_enter Tryd.func96, Tryd.ntmps96
  go_wp2_with (go_at_call 128; refine (hI _).mono ?_; rintro e w' ⟨rfl, q, rfl⟩)
  go_ret
  exact ⟨rfl, _, rfl⟩
def hexs : ByteArray := ⟨#[48, 49, 50, 51, 52, 53, 54, 55, 56, 57, 97, 98, 99, 100, 101, 102]⟩
theorem hexs_take (b : Nat) (_hb : b ≤ 16) : (hexs.extract 0 b).data.toList = digs.take b := by
  rw [ByteArray.data_extract, Array.toList_extract, List.extract_eq_take_drop, List.drop_zero, Nat.sub_zero]
  rfl
set_option maxRecDepth 100000 in
set_option maxHeartbeats 2000000 in
theorem pDig_calls (b : Nat) (hb : b ≤ 16) (B : Nat) (x : Int) (W : World) (hc : W.cell? ⟨B, 0, none⟩ = some (.int .i64 (b : Int))) :
    Calls Tryd.prog 95 #[.int .u8 x, .pointer (some ⟨B, 0, none⟩)] W fun e w' => e = .returned (.bool (pDig b x)) ∧ ∃ q, w' = W.drewN q := by
  have hI := fun W => indexByte_calls (hexs.extract 0 b) x W
  have hsl : ∀ w, (Instr.slice 9 (.string hexs) none (some (.int .i64 (b : Int))) none).run Tryd.prog w = .ok (.string (hexs.extract 0 b)) w := fun w => by
    have hz : hexs.size = 16 := rfl
    rw [run_slice_string_to_if w 9 hexs .i64 _ Tryd.underlying9, if_pos ⟨by omega, by rw [hz]; omega⟩, Int.toNat_natCast]
  have e : decide (0 ≤ Lib.indexByte (hexs.extract 0 b).data.toList x.toNat.toUInt8) = pDig b x := by
    rw [indexByte_has, hexs_take b hb]
    rfl
  generalize Lib.indexByte (hexs.extract 0 b).data.toList x.toNat.toUInt8 = r at hI e
  generalize pDig b x = z at e
  subst e
  go_enter Tryd.func95, Tryd.ntmps95
  go_wp2_with (go_at_call 96; refine (hI _).mono ?_; rintro e w' ⟨rfl, q, rfl⟩)
  go_ret
  exact ⟨by first | rfl | simp, _, rfl⟩
theorem pDig_not (b : Nat) (hb : b ≤ 16) (C B : Nat) (W : World) (x : Int) (hc : W.cell? ⟨B, 0, none⟩ = some (.func (.func 95) #[] #[.pointer (some ⟨C, 0, none⟩)])) (hC : W.cell? ⟨C, 0, none⟩ = some (.int .i64 (b : Int))) :
    Calls Tryd.prog 166 #[.int .u8 x, .pointer (some ⟨B, 0, none⟩)] W fun e w' => e = .returned (.bool (!pDig b x)) ∧ ∃ q, w' = W.drewN q := by
  have hp := fun W h => pDig_calls b hb C x W h
  have hp2 : ∀ q, Calls Tryd.prog 95 #[.int .u8 x, .pointer (some ⟨C, 0, none⟩)] (W.drewN q) fun e w' => e = .returned (.bool (pDig b x)) ∧ ∃ q', w' = (W.drewN q).drewN q' := fun q => hp _ hC
  clear hp hC
  go_enter Tryd.func166, Tryd.ntmps166
  go_wp2_with (go_at_call 95; refine (hp2 0).mono ?_; rintro e w' ⟨rfl, q, rfl⟩)
  go_ret
  exact ⟨rfl, q, rfl⟩
def impl_areDigits.f (a0 : ByteArray) (a1 : Int) : Option Bool := if a0.size ≤ 140737488355328 ∧ 0 ≤ a1 ∧ a1 ≤ 16 then some (allB (pDig a1.toNat) a0) else none
set_option maxHeartbeats 2000000 in
theorem impl_areDigits.calls (a0 : ByteArray) (a1 : Int) (r : Bool) (w : World) (h : impl_areDigits.f a0 a1 = some r) :
    Calls Tryd.prog 53 #[.string a0, .int .i64 a1] w fun e w' => e = .returned (.bool r) ∧ Below w.heap.size w w' := by
  unfold impl_areDigits.f at h
  by_cases hs : a0.size ≤ 140737488355328 ∧ 0 ≤ a1 ∧ a1 ≤ 16
  · rw [if_pos hs] at h
    obtain rfl := Option.some.inj h
    obtain ⟨hs, h0, h1⟩ := hs
    obtain ⟨b, rfl⟩ := Int.eq_ofNat_of_zero_le h0
    have hb : b ≤ 16 := by omega
    rw [Int.toNat_natCast]
    have hA := fun (W : World) (hc : W.cell? ⟨w.heap.size, 0, none⟩ = some (.int .i64 (b : Int))) (hlt : w.heap.size < W.heap.size) => areBytes_any (pDig b) 95 #[.pointer (some ⟨w.heap.size, 0, none⟩)] a0 hs W (fun B W2 x hB hW => pDig_not b hb w.heap.size B W2 x hB ((hW.cell (p := ⟨w.heap.size, 0, none⟩) hlt).trans hc))
    clear h h0 h1
    go_enter Tryd.func53, Tryd.ntmps53
    go_wp2_with (go_at_call 94; refine (hA _ (by simp) (by simp)).mono ?_; rintro e w' ⟨rfl, hb⟩)
    go_ret
    exact ⟨rfl, (below_alloc (Below.refl _ _) _).trans (hb.mono (by simp))⟩
  · rw [if_neg hs] at h
    cases h
/-! ### The value of digits in the bases 8 and 16 -/
def dval (c : UInt8) : Nat := if c.toNat ≤ 57 then c.toNat - 48 else c.toNat - 87
def valL (b : Nat) : Nat → List UInt8 → Nat
  | acc, [] => acc
  | acc, c :: l => valL b (acc * b + dval c) l
theorem valL_lt (b : Nat) (hb : 0 < b) : ∀ (l : List UInt8) (acc : Nat), (∀ c ∈ l, dval c < b) → valL b acc l < (acc + 1) * b ^ l.length
  | [], acc, _ => by simp [valL]
  | c :: l, acc, h => by
    have ih := valL_lt b hb l (acc * b + dval c) (fun x hx => h x (by simp [hx]))
    have hc := h c (by simp)
    simp only [valL, List.length_cons]
    refine Nat.lt_of_lt_of_le ih ?_
    rw [Nat.pow_succ, Nat.mul_comm (b ^ l.length) b, ← Nat.mul_assoc]
    apply Nat.mul_le_mul_right
    rw [Nat.add_mul, Nat.one_mul]
    omega
theorem pDig_8 (c : UInt8) (h : pDig 8 (c.toNat : Int) = true) : 48 ≤ c.toNat ∧ c.toNat ≤ 55 := by
  unfold pDig digs at h
  rw [Int.toNat_natCast] at h
  simp at h
  rcases h with h | h | h | h | h | h | h | h <;> subst h <;> decide
theorem pDig_16 (c : UInt8) (h : pDig 16 (c.toNat : Int) = true) : (48 ≤ c.toNat ∧ c.toNat ≤ 57) ∨ (97 ≤ c.toNat ∧ c.toNat ≤ 102) := by
  unfold pDig digs at h
  rw [Int.toNat_natCast] at h
  simp at h
  rcases h with h | h | h | h | h | h | h | h | h | h | h | h | h | h | h | h <;> subst h <;> decide
theorem lower_calls (x : Int) (h0 : 97 ≤ x) (h1 : x ≤ 102) (w : World) :
    Calls Tryd.prog 168 #[.int .u8 x] w fun e w' => e = .returned (.int .u8 x) ∧ w' = w := by
  have hx : bits .or .u8 x 32 = x := by
    have : x = 97 ∨ x = 98 ∨ x = 99 ∨ x = 100 ∨ x = 101 ∨ x = 102 := by omega
    rcases this with rfl | rfl | rfl | rfl | rfl | rfl <;> decide
  go_enter Tryd.func168, Tryd.ntmps168
  go_wp2
  go_ret
  exact ⟨by first | rfl | (simp only [hx]; rfl) | simp [hx], rfl⟩
set_option maxHeartbeats 32000000 in
set_option maxRecDepth 100000 in
theorem parseUint8 (t : ByteArray) (hne : t.size ≠ 0) (hmax : t.size ≤ 20) (hd : ∀ c ∈ t.data.toList, 48 ≤ c.toNat ∧ c.toNat ≤ 55) (w : World) :
    Calls Tryd.prog 129 #[.string t, .int .i64 8, .int .i64 64] w fun e w' => e = .returned (.tuple #[.int .u64 ((valL 8 0 t.data.toList : Nat) : Int), .nilIface]) ∧ w' = Lib.bytesWorld w 5 t := by
  have hemp : t.toList.isEmpty = false := by
    rw [← decide_eq_emptyBytes]
    exact decide_eq_false (fun h => hne (by rw [h]; rfl))
  have hcv := Lib.run_convert_string_bytes (P := Tryd.prog) w 9 83 5 t (u := .string) Tryd.underlying9 Tryd.underlying83 Tryd.underlying5
  have hB : ∀ j, j < t.size → (Lib.bytesWorld w 5 t).cell? ⟨w.heap.size, j, none⟩ = some (.int .u8 (t.data.toList.getD j 0).toNat) := fun j hj => Lib.bytesWorld_cell w 5 t j hj
  obtain ⟨W1, hW1⟩ : ∃ W1, W1 = Lib.bytesWorld w 5 t := ⟨_, rfl⟩
  rw [← hW1] at hcv hB ⊢
  clear hW1
  obtain ⟨bs, hL⟩ : ∃ bs, bs = t.data.toList := ⟨_, rfl⟩
  have hLn : bs.length = t.size := by rw [hL, Lib.size_eq]
  rw [← hL] at hB hd ⊢
  clear hL
  have hmv : IntKind.u64.wrap (IntKind.u64.wrap 18446744073709551616 - 1) = 18446744073709551615 := by
    rw [IntKind.wrap_u64, IntKind.wrap_u64]
    decide
  go_enter Tryd.func129, Tryd.ntmps129
  go_wp2
  go_loop [12, 13, 101] (fun vu vn vi => ∃ (k acc : Nat) (a : Int), vu = .bool false ∧ vn = .int .u64 a ∧ vi = .int .i64 k ∧ k ≤ t.size ∧ Hid (a = (acc : Int) ∧ acc < 8 ^ k ∧ valL 8 0 bs = valL 8 acc (bs.drop k)))
    (fun _ _ vi => t.size - (intOf vi).toNat)
  case atStart => exact ⟨0, 0, 0, rfl, rfl, rfl, by omega, rfl, by decide, rfl⟩
  case round =>
    obtain ⟨k, acc, a, rfl, rfl, rfl, hk, hh⟩ := hrel
    obtain ⟨ha, hacc, hdec⟩ := hh.out
    clear hh
    have a0 : 0 ≤ a := by omega
    by_cases hkn : k < t.size
    · have hpow : 8 ^ k ≤ 8 ^ (20 - 1) := Nat.pow_le_pow_right (by decide) (by omega)
      have hP : 8 ^ (20 - 1) = 144115188075855872 := by decide
      have hc := hB k hkn
      have hdrop : bs.drop k = bs[k]'(by omega) :: bs.drop (k + 1) := List.drop_eq_getElem_cons (by omega)
      have hget : bs.getD k 0 = bs[k]'(by omega) := by simp [List.getD, List.getElem?_eq_getElem (show k < bs.length by omega)]
      have hdk := hd (bs[k]'(by omega)) (List.getElem_mem _)
      rw [hdrop] at hdec
      rw [hget] at hc
      generalize bs[k]'(by omega) = c at hc hdec hdk
      have hc256 : c.toNat < 256 := c.toNat_lt
      clear hB hdrop hget hd
      simp only [valL] at hdec
      · obtain ⟨hd0, hd1⟩ := hdk
        have hF : dval c = c.toNat - 48 := if_pos (by omega)
        have HN : Hid (a * 8 + ((c.toNat : Int) - 48) = ((acc * 8 + dval c : Nat) : Int) ∧ acc * 8 + dval c < 8 ^ (k + 1) ∧ valL 8 0 bs = valL 8 (acc * 8 + dval c) (bs.drop (k + 1))) := Lib.hid ⟨by omega, by rw [Nat.pow_succ]; omega, hdec⟩
        have icut : a < 2305843009213693952 := by omega
        have iov : a * 8 + ((c.toNat : Int) - 48) < 1152921504606846976 := by omega
        clear hacc hdec ha hF hP hpow
        go_wp2
        refine ⟨⟨k + 1, acc * 8 + dval c, a * 8 + ((c.toNat : Int) - 48), rfl, (by first | rfl | (congr 1; omega)), (by first | rfl | (congr 1; omega)), by omega, HN⟩, by simp [intOf]; omega⟩
    · have hkk : k = t.size := by omega
      subst hkk
      rw [List.drop_eq_nil_of_le (by omega)] at hdec
      simp only [valL] at hdec
      subst ha
      clear hacc a0
      go_wp2
      go_ret2
      exact ⟨by first | rfl | (rw [hdec]; rfl) | simp [hdec], rfl⟩
set_option maxHeartbeats 8000000 in
set_option maxRecDepth 100000 in
theorem parseIntIn8 (s : ByteArray) (hne : s.size ≠ 0) (hmax : s.size ≤ 20) (hd : ∀ c ∈ s.data.toList, 48 ≤ c.toNat ∧ c.toNat ≤ 55) (w : World) :
    Calls Tryd.prog 97 #[.string s, .int .i64 8, .int .i64 64] w fun e w' => e = .returned (.tuple #[.int .i64 ((valL 8 0 s.data.toList : Nat) : Int), .nilIface]) ∧ w' = Lib.bytesWorld w 5 s := by
  have hU := fun W => parseUint8 s hne hmax hd W
  have hemp : s.toList.isEmpty = false := by
    rw [← decide_eq_emptyBytes]
    exact decide_eq_false (fun h => hne (by rw [h]; rfl))
  have hpos : 0 < s.size := by omega
  have hval : valL 8 0 s.data.toList < 9223372036854775808 := by
    refine Nat.lt_of_lt_of_le (valL_lt 8 (by decide) _ 0 (fun c hc => ?_)) ?_
    · have := hd c hc
      unfold dval
      split <;> omega
    · rw [Nat.zero_add, Nat.one_mul]
      refine Nat.le_trans (Nat.pow_le_pow_right (by decide) (show s.data.toList.length ≤ 20 by rw [← Lib.size_eq]; exact hmax)) (by decide)
  obtain ⟨c0, r, hL⟩ : ∃ c0 r, s.data.toList = c0 :: r := by
    cases h : s.data.toList with
    | nil => exact absurd (by rw [Lib.size_eq, h]; rfl) hne
    | cons c0 r => exact ⟨c0, r, rfl⟩
  have hs0 : s[0]'hpos = c0 := by have := Lib.getD_at s 0 hpos; rw [hL] at this; exact this
  have hc0 := hd c0 (by rw [hL]; simp)
  have i43 : ¬ (c0.toNat : Int) = 43 := by omega
  have i45 : ¬ (c0.toNat : Int) = 45 := by omega
  generalize valL 8 0 s.data.toList = v at hU hval ⊢
  obtain ⟨a, ha⟩ : ∃ a : Int, a = (v : Int) := ⟨_, rfl⟩
  rw [← ha] at hU ⊢
  have a0 : 0 ≤ a := by omega
  have a1 : a < 9223372036854775808 := by omega
  clear hd hL hc0 hval ha hmax
  go_enter Tryd.func97, Tryd.ntmps97
  go_wp2_with (go_at_call 129; refine (hU _).mono ?_; rintro e w1 ⟨rfl, rfl⟩)
  go_ret2
  exact ⟨rfl, rfl⟩
set_option maxRecDepth 100000 in
theorem parseInt8 (s : ByteArray) (hne : s.size ≠ 0) (hmax : s.size ≤ 20) (hd : ∀ c ∈ s.data.toList, 48 ≤ c.toNat ∧ c.toNat ≤ 55) (w : World) :
    Calls Tryd.prog 54 #[.string s, .int .i64 8, .int .i64 64] w fun e w' => e = .returned (.tuple #[.int .i64 ((valL 8 0 s.data.toList : Nat) : Int), .nilIface]) ∧ w' = Lib.bytesWorld w 5 s := by
  have hU := fun W => parseIntIn8 s hne hmax hd W
  generalize valL 8 0 s.data.toList = v at hU ⊢
  clear hne hmax hd
  go_enter Tryd.func54, Tryd.ntmps54
  go_wp2_with (go_at_call 97; refine (hU _).mono ?_; rintro e w1 ⟨rfl, rfl⟩)
  go_ret2
  exact ⟨rfl, rfl⟩
set_option maxHeartbeats 32000000 in
set_option maxRecDepth 100000 in
theorem parseUint16 (t : ByteArray) (hne : t.size ≠ 0) (hmax : t.size ≤ 15) (hd : ∀ c ∈ t.data.toList, (48 ≤ c.toNat ∧ c.toNat ≤ 57) ∨ (97 ≤ c.toNat ∧ c.toNat ≤ 102)) (w : World) :
    Calls Tryd.prog 129 #[.string t, .int .i64 16, .int .i64 64] w fun e w' => e = .returned (.tuple #[.int .u64 ((valL 16 0 t.data.toList : Nat) : Int), .nilIface]) ∧ w' = Lib.bytesWorld w 5 t := by
  have hemp : t.toList.isEmpty = false := by
    rw [← decide_eq_emptyBytes]
    exact decide_eq_false (fun h => hne (by rw [h]; rfl))
  have hcv := Lib.run_convert_string_bytes (P := Tryd.prog) w 9 83 5 t (u := .string) Tryd.underlying9 Tryd.underlying83 Tryd.underlying5
  have hB : ∀ j, j < t.size → (Lib.bytesWorld w 5 t).cell? ⟨w.heap.size, j, none⟩ = some (.int .u8 (t.data.toList.getD j 0).toNat) := fun j hj => Lib.bytesWorld_cell w 5 t j hj
  obtain ⟨W1, hW1⟩ : ∃ W1, W1 = Lib.bytesWorld w 5 t := ⟨_, rfl⟩
  rw [← hW1] at hcv hB ⊢
  clear hW1
  obtain ⟨bs, hL⟩ : ∃ bs, bs = t.data.toList := ⟨_, rfl⟩
  have hLn : bs.length = t.size := by rw [hL, Lib.size_eq]
  rw [← hL] at hB hd ⊢
  clear hL
  have hmv : IntKind.u64.wrap (IntKind.u64.wrap 18446744073709551616 - 1) = 18446744073709551615 := by
    rw [IntKind.wrap_u64, IntKind.wrap_u64]
    decide
  go_enter Tryd.func129, Tryd.ntmps129
  go_wp2
  go_loop [12, 13, 101] (fun vu vn vi => ∃ (k acc : Nat) (a : Int), vu = .bool false ∧ vn = .int .u64 a ∧ vi = .int .i64 k ∧ k ≤ t.size ∧ Hid (a = (acc : Int) ∧ acc < 16 ^ k ∧ valL 16 0 bs = valL 16 acc (bs.drop k)))
    (fun _ _ vi => t.size - (intOf vi).toNat)
  case atStart => exact ⟨0, 0, 0, rfl, rfl, rfl, by omega, rfl, by decide, rfl⟩
  case round =>
    obtain ⟨k, acc, a, rfl, rfl, rfl, hk, hh⟩ := hrel
    obtain ⟨ha, hacc, hdec⟩ := hh.out
    clear hh
    have a0 : 0 ≤ a := by omega
    by_cases hkn : k < t.size
    · have hpow : 16 ^ k ≤ 16 ^ (15 - 1) := Nat.pow_le_pow_right (by decide) (by omega)
      have hP : 16 ^ (15 - 1) = 72057594037927936 := by decide
      have hc := hB k hkn
      have hdrop : bs.drop k = bs[k]'(by omega) :: bs.drop (k + 1) := List.drop_eq_getElem_cons (by omega)
      have hget : bs.getD k 0 = bs[k]'(by omega) := by simp [List.getD, List.getElem?_eq_getElem (show k < bs.length by omega)]
      have hdk := hd (bs[k]'(by omega)) (List.getElem_mem _)
      rw [hdrop] at hdec
      rw [hget] at hc
      generalize bs[k]'(by omega) = c at hc hdec hdk
      have hc256 : c.toNat < 256 := c.toNat_lt
      clear hB hdrop hget hd
      simp only [valL] at hdec
      rcases hdk with ⟨hd0, hd1⟩ | ⟨hd0, hd1⟩
      · have hF : dval c = c.toNat - 48 := if_pos (by omega)
        have HN : Hid (a * 16 + ((c.toNat : Int) - 48) = ((acc * 16 + dval c : Nat) : Int) ∧ acc * 16 + dval c < 16 ^ (k + 1) ∧ valL 16 0 bs = valL 16 (acc * 16 + dval c) (bs.drop (k + 1))) := Lib.hid ⟨by omega, by rw [Nat.pow_succ]; omega, hdec⟩
        have icut : a < 1152921504606846976 := by omega
        have iov : a * 16 + ((c.toNat : Int) - 48) < 1152921504606846976 := by omega
        clear hacc hdec ha hF hP hpow
        go_wp2
        refine ⟨⟨k + 1, acc * 16 + dval c, a * 16 + ((c.toNat : Int) - 48), rfl, (by first | rfl | (congr 1; omega)), (by first | rfl | (congr 1; omega)), by omega, HN⟩, by simp [intOf]; omega⟩
      · have hF : dval c = c.toNat - 87 := if_neg (by omega)
        have hlow := fun W => lower_calls (c.toNat : Int) (by omega) (by omega) W
        have HN : Hid (a * 16 + ((c.toNat : Int) - 97 + 10) = ((acc * 16 + dval c : Nat) : Int) ∧ acc * 16 + dval c < 16 ^ (k + 1) ∧ valL 16 0 bs = valL 16 (acc * 16 + dval c) (bs.drop (k + 1))) := Lib.hid ⟨by omega, by rw [Nat.pow_succ]; omega, hdec⟩
        have icut : a < 1152921504606846976 := by omega
        have iov : a * 16 + ((c.toNat : Int) - 97 + 10) < 1152921504606846976 := by omega
        clear hacc hdec ha hF hP hpow
        go_wp2_with (go_at_call 168; refine (hlow _).mono ?_; rintro e w' ⟨rfl, rfl⟩)
        refine ⟨⟨k + 1, acc * 16 + dval c, a * 16 + ((c.toNat : Int) - 97 + 10), rfl, (by first | rfl | (congr 1; omega)), (by first | rfl | (congr 1; omega)), by omega, HN⟩, by simp [intOf]; omega⟩
    · have hkk : k = t.size := by omega
      subst hkk
      rw [List.drop_eq_nil_of_le (by omega)] at hdec
      simp only [valL] at hdec
      subst ha
      clear hacc a0
      go_wp2
      go_ret2
      exact ⟨by first | rfl | (rw [hdec]; rfl) | simp [hdec], rfl⟩
set_option maxHeartbeats 8000000 in
set_option maxRecDepth 100000 in
theorem parseIntIn16 (s : ByteArray) (hne : s.size ≠ 0) (hmax : s.size ≤ 15) (hd : ∀ c ∈ s.data.toList, (48 ≤ c.toNat ∧ c.toNat ≤ 57) ∨ (97 ≤ c.toNat ∧ c.toNat ≤ 102)) (w : World) :
    Calls Tryd.prog 97 #[.string s, .int .i64 16, .int .i64 64] w fun e w' => e = .returned (.tuple #[.int .i64 ((valL 16 0 s.data.toList : Nat) : Int), .nilIface]) ∧ w' = Lib.bytesWorld w 5 s := by
  have hU := fun W => parseUint16 s hne hmax hd W
  have hemp : s.toList.isEmpty = false := by
    rw [← decide_eq_emptyBytes]
    exact decide_eq_false (fun h => hne (by rw [h]; rfl))
  have hpos : 0 < s.size := by omega
  have hval : valL 16 0 s.data.toList < 9223372036854775808 := by
    refine Nat.lt_of_lt_of_le (valL_lt 16 (by decide) _ 0 (fun c hc => ?_)) ?_
    · have := hd c hc
      unfold dval
      split <;> omega
    · rw [Nat.zero_add, Nat.one_mul]
      refine Nat.le_trans (Nat.pow_le_pow_right (by decide) (show s.data.toList.length ≤ 15 by rw [← Lib.size_eq]; exact hmax)) (by decide)
  obtain ⟨c0, r, hL⟩ : ∃ c0 r, s.data.toList = c0 :: r := by
    cases h : s.data.toList with
    | nil => exact absurd (by rw [Lib.size_eq, h]; rfl) hne
    | cons c0 r => exact ⟨c0, r, rfl⟩
  have hs0 : s[0]'hpos = c0 := by have := Lib.getD_at s 0 hpos; rw [hL] at this; exact this
  have hc0 := hd c0 (by rw [hL]; simp)
  have i43 : ¬ (c0.toNat : Int) = 43 := by omega
  have i45 : ¬ (c0.toNat : Int) = 45 := by omega
  generalize valL 16 0 s.data.toList = v at hU hval ⊢
  obtain ⟨a, ha⟩ : ∃ a : Int, a = (v : Int) := ⟨_, rfl⟩
  rw [← ha] at hU ⊢
  have a0 : 0 ≤ a := by omega
  have a1 : a < 9223372036854775808 := by omega
  clear hd hL hc0 hval ha hmax
  go_enter Tryd.func97, Tryd.ntmps97
  go_wp2_with (go_at_call 129; refine (hU _).mono ?_; rintro e w1 ⟨rfl, rfl⟩)
  go_ret2
  exact ⟨rfl, rfl⟩
set_option maxRecDepth 100000 in
theorem parseInt16 (s : ByteArray) (hne : s.size ≠ 0) (hmax : s.size ≤ 15) (hd : ∀ c ∈ s.data.toList, (48 ≤ c.toNat ∧ c.toNat ≤ 57) ∨ (97 ≤ c.toNat ∧ c.toNat ≤ 102)) (w : World) :
    Calls Tryd.prog 54 #[.string s, .int .i64 16, .int .i64 64] w fun e w' => e = .returned (.tuple #[.int .i64 ((valL 16 0 s.data.toList : Nat) : Int), .nilIface]) ∧ w' = Lib.bytesWorld w 5 s := by
  have hU := fun W => parseIntIn16 s hne hmax hd W
  generalize valL 16 0 s.data.toList = v at hU ⊢
  clear hne hmax hd
  go_enter Tryd.func54, Tryd.ntmps54
  go_wp2_with (go_at_call 97; refine (hU _).mono ?_; rintro e w1 ⟨rfl, rfl⟩)
  go_ret2
  exact ⟨rfl, rfl⟩

/-! ### impl_GetOct: function 19, by a contract of our own -/
def impl_GetOct.f (a0 : ByteArray) : Option (Int × Bool) :=
  if a0.size ≤ 140737488355328 then (if (1 ≤ a0.size ∧ a0.size ≤ 20) then (if allB (pDig 8) a0 = true then (if valL 8 0 a0.data.toList ≤ 9007199254740991 then some (((valL 8 0 a0.data.toList : Nat) : Int), true) else some (0, false)) else some (0, false)) else some (0, false)) else none
set_option maxRecDepth 100000 in
set_option maxHeartbeats 4000000 in
theorem impl_GetOct.calls (a0 : ByteArray) (r1 : Int) (r2 : Bool) (w : World) (h : impl_GetOct.f a0 = some (r1, r2)) :
    Calls Tryd.prog 19 #[.string a0] w fun e w' => e = .returned (.tuple #[.int .i64 r1, .bool r2]) ∧ Below w.heap.size w w' := by
  unfold impl_GetOct.f at h
  by_cases hs : a0.size ≤ 140737488355328
  case neg =>
    rw [if_neg hs] at h
    cases h
  rw [if_pos hs] at h
  have hA := fun W => impl_areDigits.calls a0 8 (allB (pDig 8) a0) W (by unfold impl_areDigits.f; rw [if_pos ⟨hs, by decide, by decide⟩]; rfl)
  by_cases hlen : (1 ≤ a0.size ∧ a0.size ≤ 20)
  · rw [if_pos hlen] at h
    have hW := fun W => impl_within.calls (a0.size : Int) 1 20 true W (by unfold impl_within.f; rw [if_pos (by omega), decide_eq_true (by omega)])
    have hne : a0.size ≠ 0 := by omega
    cases hd : allB (pDig 8) a0 with
    | false =>
      rw [hd] at hA h
      rw [if_neg (by decide)] at h
      obtain ⟨rfl, rfl⟩ := Prod.mk.inj (Option.some.inj h)
      clear h hd
      go_enter Tryd.func19, Tryd.ntmps19
      go_wp2_with (first | (go_at_call 55; refine (hW _).mono ?_; rintro e w' ⟨rfl, q, rfl⟩) | (go_at_call 53; refine (hA _).mono ?_; rintro e w1 ⟨rfl, hb⟩))
      go_ret2
      exact ⟨rfl, (pw_below_drewN (Below.refl _ _) q).trans (hb.mono (by simp))⟩
    | true =>
      rw [hd] at hA h
      rw [if_pos rfl] at h
      have hdig : ∀ c ∈ a0.data.toList, 48 ≤ c.toNat ∧ c.toNat ≤ 55 := fun c hc => pDig_8 c (by
        unfold allB at hd
        rw [ByteArray.toList_eq] at hd
        exact List.all_eq_true.1 hd c hc)
      have hP := fun W => parseInt8 a0 hne (by omega) hdig W
      clear hd hdig
      generalize valL 8 0 a0.data.toList = v at hP h
      by_cases hv : v ≤ 9007199254740991
      · rw [if_pos hv] at h
        obtain ⟨rfl, rfl⟩ := Prod.mk.inj (Option.some.inj h)
        clear h
        go_enter Tryd.func19, Tryd.ntmps19
        go_wp2_with (first | (go_at_call 55; refine (hW _).mono ?_; rintro e w' ⟨rfl, q, rfl⟩) | (go_at_call 53; refine (hA _).mono ?_; rintro e w1 ⟨rfl, hb⟩) | (go_at_call 54; refine (hP _).mono ?_; rintro e w2 ⟨rfl, rfl⟩))
        go_ret2
        exact ⟨rfl, ((pw_below_drewN (Below.refl _ _) q).trans (hb.mono (by simp))).trans ((bytes_below (Below.refl _ _) (Nat.le_refl _) _ a0).mono (Nat.le_trans (by simp) hb.size))⟩
      · rw [if_neg hv] at h
        obtain ⟨rfl, rfl⟩ := Prod.mk.inj (Option.some.inj h)
        clear h
        go_enter Tryd.func19, Tryd.ntmps19
        go_wp2_with (first | (go_at_call 55; refine (hW _).mono ?_; rintro e w' ⟨rfl, q, rfl⟩) | (go_at_call 53; refine (hA _).mono ?_; rintro e w1 ⟨rfl, hb⟩) | (go_at_call 54; refine (hP _).mono ?_; rintro e w2 ⟨rfl, rfl⟩))
        go_ret2
        exact ⟨rfl, ((pw_below_drewN (Below.refl _ _) q).trans (hb.mono (by simp))).trans ((bytes_below (Below.refl _ _) (Nat.le_refl _) _ a0).mono (Nat.le_trans (by simp) hb.size))⟩
  · rw [if_neg hlen] at h
    have hW := fun W => impl_within.calls (a0.size : Int) 1 20 false W (by unfold impl_within.f; by_cases c : (1 : Int) ≤ (a0.size : Int) <;> simp only [c, if_true, if_false] <;> first | rfl | rw [decide_eq_false (by omega)])
    obtain ⟨rfl, rfl⟩ := Prod.mk.inj (Option.some.inj h)
    clear h
    go_enter Tryd.func19, Tryd.ntmps19
    go_wp2_with (first | (go_at_call 55; refine (hW _).mono ?_; rintro e w' ⟨rfl, q, rfl⟩) | (go_at_call 53; refine (hA _).mono ?_; rintro e w1 ⟨rfl, hb⟩))
    go_ret2
    exact ⟨rfl, (pw_below_drewN (Below.refl _ _) q)⟩

/-! ### laws_FnExactGetOct: function 5 -/
def laws_FnExactGetOct.f (k : Nat) (a0 : ByteArray) : Option (Bool) := if (a0.size : Int) > 1048576 then (some true) else ((spec_GetOct.f k a0).bind fun bt105 => ((impl_GetOct.f a0).bind fun bt107 => (if bt107.1 = bt105.1 then (if (bt107.2 != bt105.2) = true then (some false) else (some true)) else (some false))))
theorem laws_FnExactGetOct.mono : ∀ a0 k, LeO (laws_FnExactGetOct.f k a0) (laws_FnExactGetOct.f (k + 1) a0) := by
  intro a0 k
  unfold laws_FnExactGetOct.f
  repeat' first
      | (with_reducible exact spec_GetOct.mono _ _)
      | (with_reducible exact LeO.refl _)
      | (with_reducible exact LeO.none _)
      | (with_reducible refine LeO.ite ?_ ?_)
      | (with_reducible refine LeO.bind ?_ (fun _ => ?_))
      | exact spec_GetOct.mono _ _
      | exact LeO.none _
      | refine LeO.ite ?_ ?_
      | refine LeO.bind ?_ (fun _ => ?_)
set_option maxHeartbeats 8000000 in
set_option maxRecDepth 100000 in
theorem laws_FnExactGetOct.calls (k : Nat) (a0 : ByteArray) (r : Bool) (w : World) (h : laws_FnExactGetOct.f k a0 = some r) :
    Calls Tryd.prog 5 #[.string a0] w fun e w' => e = .returned (.bool r) ∧ Below w.heap.size w w' := by
  have HB := Aside0.mk (Below.refl w.heap.size w)
  have H : (if (a0.size : Int) > 1048576 then (some true) else ((spec_GetOct.f k a0).bind fun bt105 => ((impl_GetOct.f a0).bind fun bt107 => (if bt107.1 = bt105.1 then (if (bt107.2 != bt105.2) = true then (some false) else (some true)) else (some false))))) = some r := h
  clear h
  by_cases c2 : (a0.size : Int) > 1048576
  · rw [if_pos c2] at H
    have c2b0 : decide (1048576 < (a0.size : Int)) = true := decide_eq_true c2
    have c2b1 : decide (1048576 < a0.size) = true := decide_eq_true (by omega)
    clear c2
    obtain rfl := Option.some.inj H
    go_enter Tryd.func5, Tryd.ntmps5
    go_wp2
    go_ret
    exact ⟨by first | rfl | (simp [errW_none, errW_some] <;> rfl) | (simp [*, errW_none, errW_some] <;> rfl) | (simp only [decide_eq_true_eq] at *; simp [*, bt]; done), by repeat (first | (with_reducible first | exact HB.out | apply below_alloc | apply pw_below_drewN | apply below_drew1) | exact HB.out)⟩
  · rw [if_neg c2] at H
    have c2b0 : decide (1048576 < (a0.size : Int)) = false := decide_eq_false c2
    have c2b1 : decide (1048576 < a0.size) = false := decide_eq_false (by omega)
    clear c2
    replace H := Option.bind_eq_some_iff.mp H
    obtain ⟨⟨t105, t106⟩, A30, H⟩ := H
    replace H : ((impl_GetOct.f a0).bind fun bt107 => (if bt107.1 = t105 then (if (bt107.2 != t106) = true then (some false) else (some true)) else (some false))) = some r := H
    have A3 := Aside0.mk A30
    clear A30
    replace H := Option.bind_eq_some_iff.mp H
    obtain ⟨⟨t107, t108⟩, A40, H⟩ := H
    replace H : (if t107 = t105 then (if (t108 != t106) = true then (some false) else (some true)) else (some false)) = some r := H
    have A4 := Aside0.mk A40
    clear A40
    by_cases c5 : t107 = t105
    · rw [if_pos c5] at H
      have c5b0 : (t107 == t105) = true := beq_iff_eq.mpr c5
      have c5b1 : (t107 != t105) = false := bne_eq_false_iff_eq.mpr c5
      clear c5
      by_cases c6 : (t108 != t106) = true
      · rw [if_pos c6] at H
        have c6b0 : (t108 != t106) = true := c6
        (try (have c6b1 : decide (t108 = t106) = false := by simpa using c6))
        (try (have c6b2 : (t108 == t106) = false := by simpa using c6))
        (try (have c6b3 : ¬ (t108 = t106) := by simpa using c6))
        clear c6
        obtain rfl := Option.some.inj H
        go_enter Tryd.func5, Tryd.ntmps5
        go_wp2_with (first | ((with_reducible refine gate_callee (f := 18) rfl ?_); refine goesL_ (some 12) rfl rfl Tryd.func18 (by kernel_rfl) rfl #[.string a0] rfl (by (try simp only [List.map_toArray, List.map_cons, List.map_nil]); first | done | rfl | (simp only [List.length_drop, List.length_take]; rfl)) ?_; (with_reducible refine (spec_GetOct.calls k a0 t105 t106 _ A3.out).mono ?_); rintro e w' ⟨rfl, ⟨nd, rfl⟩⟩; refine ⟨_, rfl, ?_⟩) | ((with_reducible refine gate_callee (f := 19) rfl ?_); refine goesL_ (some 17) rfl rfl Tryd.func19 (by kernel_rfl) rfl #[.string a0] rfl (by (try simp only [List.map_toArray, List.map_cons, List.map_nil]); first | done | rfl | (simp only [List.length_drop, List.length_take]; rfl)) ?_; (with_reducible refine (impl_GetOct.calls a0 t107 t108 _ A4.out).mono ?_); rintro e w7 ⟨rfl, hb⟩; refine ⟨_, rfl, ?_⟩; have n0_ := Aside0.mk (below_step (by repeat (first | (with_reducible first | exact HB.out | apply below_alloc | apply pw_below_drewN | apply below_drew1) | exact HB.out)) hb); clear HB; have HB := n0_; clear n0_; (try clear hb); (try clear hb2); (try clear hk); (try clear hi)))
        go_ret
        exact ⟨by first | rfl | (simp [errW_none, errW_some] <;> rfl) | (simp [*, errW_none, errW_some] <;> rfl) | (simp only [decide_eq_true_eq] at *; simp [*, bt]; done), by repeat (first | (with_reducible first | exact HB.out | apply below_alloc | apply pw_below_drewN | apply below_drew1) | exact HB.out)⟩
      · rw [if_neg c6] at H
        have c6b0 : (t108 != t106) = false := by simpa using c6
        (try (have c6b1 : decide (t108 = t106) = true := by simpa using c6))
        (try (have c6b2 : (t108 == t106) = true := by simpa using c6))
        clear c6
        obtain rfl := Option.some.inj H
        go_enter Tryd.func5, Tryd.ntmps5
        go_wp2_with (first | ((with_reducible refine gate_callee (f := 18) rfl ?_); refine goesL_ (some 12) rfl rfl Tryd.func18 (by kernel_rfl) rfl #[.string a0] rfl (by (try simp only [List.map_toArray, List.map_cons, List.map_nil]); first | done | rfl | (simp only [List.length_drop, List.length_take]; rfl)) ?_; (with_reducible refine (spec_GetOct.calls k a0 t105 t106 _ A3.out).mono ?_); rintro e w' ⟨rfl, ⟨nd, rfl⟩⟩; refine ⟨_, rfl, ?_⟩) | ((with_reducible refine gate_callee (f := 19) rfl ?_); refine goesL_ (some 17) rfl rfl Tryd.func19 (by kernel_rfl) rfl #[.string a0] rfl (by (try simp only [List.map_toArray, List.map_cons, List.map_nil]); first | done | rfl | (simp only [List.length_drop, List.length_take]; rfl)) ?_; (with_reducible refine (impl_GetOct.calls a0 t107 t108 _ A4.out).mono ?_); rintro e w8 ⟨rfl, hb⟩; refine ⟨_, rfl, ?_⟩; have n0_ := Aside0.mk (below_step (by repeat (first | (with_reducible first | exact HB.out | apply below_alloc | apply pw_below_drewN | apply below_drew1) | exact HB.out)) hb); clear HB; have HB := n0_; clear n0_; (try clear hb); (try clear hb2); (try clear hk); (try clear hi)))
        go_ret
        exact ⟨by first | rfl | (simp [errW_none, errW_some] <;> rfl) | (simp [*, errW_none, errW_some] <;> rfl) | (simp only [decide_eq_true_eq] at *; simp [*, bt]; done), by repeat (first | (with_reducible first | exact HB.out | apply below_alloc | apply pw_below_drewN | apply below_drew1) | exact HB.out)⟩
    · rw [if_neg c5] at H
      have c5b0 : (t107 == t105) = false := beq_eq_false_iff_ne.mpr c5
      have c5b1 : (t107 != t105) = true := bne_iff_ne.mpr c5
      obtain rfl := Option.some.inj H
      go_enter Tryd.func5, Tryd.ntmps5
      go_wp2_with (first | ((with_reducible refine gate_callee (f := 18) rfl ?_); refine goesL_ (some 12) rfl rfl Tryd.func18 (by kernel_rfl) rfl #[.string a0] rfl (by (try simp only [List.map_toArray, List.map_cons, List.map_nil]); first | done | rfl | (simp only [List.length_drop, List.length_take]; rfl)) ?_; (with_reducible refine (spec_GetOct.calls k a0 t105 t106 _ A3.out).mono ?_); rintro e w' ⟨rfl, ⟨nd, rfl⟩⟩; refine ⟨_, rfl, ?_⟩) | ((with_reducible refine gate_callee (f := 19) rfl ?_); refine goesL_ (some 17) rfl rfl Tryd.func19 (by kernel_rfl) rfl #[.string a0] rfl (by (try simp only [List.map_toArray, List.map_cons, List.map_nil]); first | done | rfl | (simp only [List.length_drop, List.length_take]; rfl)) ?_; (with_reducible refine (impl_GetOct.calls a0 t107 t108 _ A4.out).mono ?_); rintro e w9 ⟨rfl, hb⟩; refine ⟨_, rfl, ?_⟩; have n0_ := Aside0.mk (below_step (by repeat (first | (with_reducible first | exact HB.out | apply below_alloc | apply pw_below_drewN | apply below_drew1) | exact HB.out)) hb); clear HB; have HB := n0_; clear n0_; (try clear hb); (try clear hb2); (try clear hk); (try clear hi)))
      go_ret
      exact ⟨by first | rfl | (simp [errW_none, errW_some] <;> rfl) | (simp [*, errW_none, errW_some] <;> rfl) | (simp only [decide_eq_true_eq] at *; simp [*, bt]; done), by repeat (first | (with_reducible first | exact HB.out | apply below_alloc | apply pw_below_drewN | apply below_drew1) | exact HB.out)⟩

/-- THE ONE PURE STATEMENT of laws_FnExactGetOct: yours. -/
def laws_FnExactGetOct.Pure : Prop := ∀ (a0 : ByteArray), a0.size ≤ 140737488351232 → ∃ k, laws_FnExactGetOct.f k a0 = some true
theorem laws_FnExactGetOct.walk (P : laws_FnExactGetOct.Pure) (a0 : ByteArray) (w : World) (w0 : a0.size ≤ 140737488351232) :
    Calls Tryd.prog 5 #[.string a0] w fun e w' => e = .returned (.bool true) ∧ Below w.heap.size w w' := by
  obtain ⟨k, h⟩ := P a0 w0
  refine (laws_FnExactGetOct.calls k a0 true w h).mono ?_
  rintro e w' ⟨rfl, hd⟩
  exact ⟨rfl, hd⟩

end Go.Proofs.YtmdmhcganiaogaaDoor.PFnExactGetOct
