/-
The pure statement of the law FnExactJoin (numbers, byte strings and lists; no Go and no memory): the printed law's function answers true. Conditions: those of the printed statement (each string at most 2^47 - 4096 bytes, each number of its kind).
-/
import Derived.Test.YtfmhajlpaelmeaaPFnExactJoinx1
import Derived.Test.YtfmhajlpaelmeaaCore
namespace Go.Proofs.Ytfmhajlpaelmeaa.Pure
open Go.RowKit Go.Proofs.Ytfmhajlpaelmeaa.PFnExactJoin Go.Proofs.YtfmhajlpaelmeaaW.PrintWords Go.Proofs.YtfmhajlpaelmeaaW.PrintLast Go.Proofs.Ytfmhajlpaelmeaa.Core

/-! ### Lists of texts: sized, copied -/
def sizeL (l : List ByteArray) : Nat := (l.map ByteArray.size).sum
theorem sizeL_cons (x : ByteArray) (l : List ByteArray) : sizeL (x :: l) = x.size + sizeL l := rfl
theorem rd_mid (pre t : List ByteArray) (x : ByteArray) : rdOf ByteArray.empty (pre ++ x :: t) (pre.length : Int) = x := by
  unfold rdOf
  rw [Int.toNat_natCast, List.getD_eq_getElem?_getD, List.getElem?_append_right (Nat.le_refl _)]
  simp
theorem szStr_loop : ∀ (t pre : List ByteArray) (k : Nat) (x : Int), (∀ y ∈ t, y.size ≤ 9223372036854775807) → 0 ≤ x → x ≤ 1048576 → pre.length + t.length ≤ 1000000000000 → t.length < k →
    ∃ r, laws_szStringS.l0 k (pre ++ t) x (pre.length : Int) = some r ∧ (r < 0 ∨ (0 ≤ r ∧ (sizeL t : Int) = x - r))
  | [], pre, k, x, hy, h0, h1, hl, hk => by
    obtain ⟨k, rfl⟩ : ∃ m, k = m + 1 := ⟨k - 1, by omega⟩
    unfold laws_szStringS.l0
    rw [if_neg (by simp)]
    exact ⟨x, rfl, Or.inr ⟨h0, by simp [sizeL]⟩⟩
  | y :: t, pre, k, x, hy, h0, h1, hl, hk => by
    simp only [List.length_cons] at hl hk
    obtain ⟨k, rfl⟩ : ∃ m, k = m + 1 := ⟨k - 1, by omega⟩
    have hs := hy y (by simp)
    unfold laws_szStringS.l0
    rw [if_pos (by simp; omega), if_pos (by omega), rd_mid, w64 (by omega) (by omega), w64 (by omega) (by omega)]
    by_cases c : x - (y.size : Int) < 0
    · rw [if_pos c]
      exact ⟨_, rfl, Or.inl (by decide)⟩
    · rw [if_neg c]
      have ih := szStr_loop t (pre ++ [y]) k (x - (y.size : Int)) (fun z hz => hy z (by simp [hz])) (by omega) (by omega) (by simp only [List.length_append, List.length_cons, List.length_nil]; omega) (by omega)
      simp only [List.length_append, List.length_cons, List.length_nil, List.append_assoc, List.singleton_append] at ih
      obtain ⟨r, e, h⟩ := ih
      rw [show ((pre.length : Int) + 1) = ((pre.length + (0 + 1) : Nat) : Int) by omega]
      refine ⟨r, e, h.imp id fun h => ⟨h.1, ?_⟩⟩
      rw [sizeL_cons]
      omega
theorem szStr (l : List ByteArray) (hl : l.length ≤ 9223372036854775807) (hy : ∀ y ∈ l, y.size ≤ 9223372036854775807) (x : Int) (h0 : 0 ≤ x) (h1 : x ≤ 1048576) (k : Nat) (hk : 1048577 < k) :
    ∃ r, laws_szStringS.f k l x = some r ∧ (r < 0 ∨ (0 ≤ r ∧ (sizeL l + l.length : Int) = x - r)) := by
  unfold laws_szStringS.f
  rw [w64 (by omega) (by omega)]
  by_cases c : x - (l.length : Int) < 0
  · rw [if_pos c]
    exact ⟨_, rfl, Or.inl (by decide)⟩
  · rw [if_neg c]
    obtain ⟨r, e, h⟩ := szStr_loop l [] k (x - (l.length : Int)) hy (by omega) (by omega) (by simp; omega) (by omega)
    exact ⟨r, e, h.imp id fun h => ⟨h.1, by omega⟩⟩
theorem toStr_loop : ∀ (t pre rest : List ByteArray) (k : Nat), rest.length = t.length → pre.length + t.length ≤ 1000000000000 → t.length < k →
    laws_toStringS.l0 k (pre ++ t) (pre ++ rest) (pre.length : Int) = some (pre ++ t)
  | [], pre, rest, k, hr, hl, hk => by
    obtain ⟨k, rfl⟩ : ∃ m, k = m + 1 := ⟨k - 1, by omega⟩
    obtain rfl : rest = [] := List.length_eq_zero_iff.1 hr
    unfold laws_toStringS.l0
    rw [if_neg (by simp)]
  | y :: t, pre, [], k, hr, hl, hk => by simp at hr
  | y :: t, pre, z :: rest, k, hr, hl, hk => by
    simp only [List.length_cons] at hl hk hr
    obtain ⟨k, rfl⟩ : ∃ m, k = m + 1 := ⟨k - 1, by omega⟩
    unfold laws_toStringS.l0
    rw [if_pos (by simp; omega), if_pos (by omega), if_pos (by simp; omega), rd_mid, w64 (by omega) (by omega)]
    have es : (pre ++ z :: rest).set ((pre.length : Int)).toNat y = pre ++ y :: rest := by
      rw [Int.toNat_natCast, List.set_append_right _ _ (Nat.le_refl _)]
      simp
    have ih := toStr_loop t (pre ++ [y]) rest k (by omega) (by simp only [List.length_append, List.length_cons, List.length_nil]; omega) (by omega)
    simp only [List.length_append, List.length_cons, List.length_nil, List.append_assoc, List.singleton_append] at ih
    rw [es, show ((pre.length : Int) + 1) = ((pre.length + (0 + 1) : Nat) : Int) by omega, ih]
theorem toStr (l : List ByteArray) (hl : l.length ≤ 1048576) (k : Nat) (hk : l.length < k) : laws_toStringS.f k l = some l := by
  unfold laws_toStringS.f
  rw [if_pos (by omega), if_pos (by omega), Int.toNat_natCast]
  exact toStr_loop l [] (List.replicate l.length (⟨#[]⟩ : ByteArray)) k (by simp) (by simp; omega) hk

def joinM (l : List ByteArray) : List UInt8 := Lib.join (l.map ByteArray.toList) [47]
theorem joinTail_cons (sep : List UInt8) (x : List UInt8) (r : List (List UInt8)) : Lib.joinTail sep (x :: r) = sep ++ x ++ Lib.joinTail sep r := by
  simp [Lib.joinTail]
theorem joinTail_len : ∀ l : List ByteArray, (Lib.joinTail [47] (l.map ByteArray.toList)).length = sizeL l + l.length
  | [] => rfl
  | x :: l => by
    rw [List.map_cons, joinTail_cons, sizeL_cons]
    simp only [List.length_append, List.length_cons, List.length_nil, joinTail_len l, tl_length]
    omega
theorem joinM_len (l : List ByteArray) : (joinM l).length ≤ sizeL l + l.length := by
  unfold joinM
  cases l with
  | nil => simp [Lib.join_nil]
  | cons x l =>
    rw [List.map_cons, Lib.join_cons, List.length_append, joinTail_len, tl_length, sizeL_cons, List.length_cons]
    omega
theorem spec_join_loop : ∀ (t pre : List ByteArray) (out : ByteArray) (k : Nat), 0 < pre.length → pre.length + t.length ≤ 1000000000000 → out.size + sizeL t + t.length ≤ 1000000000000 → t.length < k →
    ∃ r, spec_Join.l0 k (pre ++ t) out (pre.length : Int) = some r ∧ r.toList = out.toList ++ Lib.joinTail [47] (t.map ByteArray.toList)
  | [], pre, out, k, h0, hl, hs, hk => by
    obtain ⟨k, rfl⟩ : ∃ m, k = m + 1 := ⟨k - 1, by omega⟩
    unfold spec_Join.l0
    rw [if_neg (by simp)]
    exact ⟨out, rfl, by simp [Lib.joinTail]⟩
  | x :: t, pre, out, k, h0, hl, hs, hk => by
    simp only [List.length_cons, sizeL_cons] at hl hk hs
    obtain ⟨k, rfl⟩ : ∃ m, k = m + 1 := ⟨k - 1, by omega⟩
    have e1 : (out ++ (⟨#[47]⟩ : ByteArray)).size = out.size + 1 := by rw [ByteArray.size_append]; rfl
    unfold spec_Join.l0
    rw [if_pos (by simp; omega), if_pos (by omega), if_pos (by omega), if_pos (by omega), rd_mid, if_pos (by omega), w64 (by omega) (by omega)]
    have ih := spec_join_loop t (pre ++ [x]) ((out ++ (⟨#[47]⟩ : ByteArray)) ++ x) k (by simp) (by simp only [List.length_append, List.length_cons, List.length_nil]; omega) (by rw [ByteArray.size_append]; omega) (by omega)
    simp only [List.length_append, List.length_cons, List.length_nil, List.append_assoc, List.singleton_append] at ih
    obtain ⟨r, e, l⟩ := ih
    rw [show ((pre.length : Int) + 1) = ((pre.length + (0 + 1) : Nat) : Int) by omega]
    refine ⟨r, e, ?_⟩
    rw [l, tl_append, tl_append, List.map_cons, joinTail_cons]
    have : (⟨#[47]⟩ : ByteArray).toList = [47] := by rw [tl]
    rw [this]
    simp
theorem spec_join (l : List ByteArray) (hl : l.length ≤ 1048576) (hs : sizeL l ≤ 4194304) (k : Nat) (hk : l.length < k) : ∃ r, spec_Join.f k l = some r ∧ r.toList = joinM l := by
  unfold spec_Join.f joinM
  cases l with
  | nil =>
    obtain ⟨k, rfl⟩ : ∃ m, k = m + 1 := ⟨k - 1, by omega⟩
    unfold spec_Join.l0
    rw [if_neg (by simp)]
    exact ⟨_, rfl, by rw [tl]; rfl⟩
  | cons x t =>
    simp only [List.length_cons, sizeL_cons] at hl hk hs
    obtain ⟨k, rfl⟩ : ∃ m, k = m + 1 := ⟨k - 1, by omega⟩
    unfold spec_Join.l0
    have er : rdOf ByteArray.empty (x :: t) 0 = x := rfl
    have e0 : (⟨#[]⟩ : ByteArray).size = 0 := rfl
    rw [if_pos (by simp only [List.length_cons]; omega), if_neg (by decide), if_pos (by decide), er, if_pos (by omega), w64 (by decide) (by decide)]
    obtain ⟨r, e, l⟩ := spec_join_loop t [x] ((⟨#[]⟩ : ByteArray) ++ x) k (by simp) (by simp; omega) (by rw [ByteArray.size_append]; omega) (by omega)
    refine ⟨r, e, ?_⟩
    rw [l, tl_append, List.map_cons, Lib.join_cons]
    have : (⟨#[]⟩ : ByteArray).toList = [] := by rw [tl]
    rw [this]
    simp
theorem lib_join (l : List ByteArray) (sep : ByteArray) (hl : l.length ≤ 1048576) (hs : (Lib.join (l.map ByteArray.toList) sep.toList).length ≤ 140737488355328) : ∃ r, strings_Join.f l sep = some r ∧ r.toList = Lib.join (l.map ByteArray.toList) sep.toList := by
  have e : l.map (fun x => x.data.toList) = l.map ByteArray.toList := List.map_congr_left fun x _ => (tl x).symm
  unfold strings_Join.f
  rw [e, ← tl sep, if_pos ⟨by omega, hs⟩]
  exact ⟨_, rfl, tl_mk _⟩
theorem impl_join (l : List ByteArray) (hl : l.length ≤ 1048576) (hs : sizeL l ≤ 4194304) : ∃ r, impl_Join.f l = some r ∧ r.toList = joinM l := by
  have h47 : (⟨#[47]⟩ : ByteArray).toList = [47] := by rw [tl]
  have := joinM_len l
  obtain ⟨r, e, h⟩ := lib_join l (⟨#[47]⟩ : ByteArray) hl (by rw [h47]; unfold joinM at this; omega)
  unfold impl_Join.f
  rw [e]
  exact ⟨r, rfl, by rw [h, h47]; rfl⟩

theorem eq_loop (l l' : List ByteArray) (h : l.map ByteArray.toList = l'.map ByteArray.toList) (hl : l.length ≤ 1000000000000) : ∀ (d i k : Nat), i + d = l.length → d < k → laws_eqStringS.l0 k l l' (i : Int) = some true := by
  have hlen : l.length = l'.length := by simpa using congrArg List.length h
  intro d
  induction d with
  | zero =>
    intro i k hi hk
    obtain ⟨k, rfl⟩ : ∃ m, k = m + 1 := ⟨k - 1, by omega⟩
    unfold laws_eqStringS.l0
    rw [if_neg (by omega)]
  | succ d ih =>
    intro i k hi hk
    obtain ⟨k, rfl⟩ : ∃ m, k = m + 1 := ⟨k - 1, by omega⟩
    unfold laws_eqStringS.l0
    have hg : (rdOf ByteArray.empty l (i : Int)).toList = (rdOf ByteArray.empty l' (i : Int)).toList := by
      unfold rdOf
      have := congrArg (fun z => z[i]?) h
      simp only [List.getElem?_map] at this
      rw [Int.toNat_natCast, List.getD_eq_getElem?_getD, List.getD_eq_getElem?_getD]
      rw [List.getElem?_eq_getElem (by omega), List.getElem?_eq_getElem (by omega)] at this ⊢
      simpa using this
    rw [if_pos (by omega), if_pos (by omega), if_pos (by omega), if_pos hg, w64 (by omega) (by omega)]
    exact ih (i + 1) k (by omega) (by omega)
theorem eq_ok (l l' : List ByteArray) (h : l.map ByteArray.toList = l'.map ByteArray.toList) (hl : l.length ≤ 1000000000000) (k : Nat) (hk : l.length < k) : laws_eqStringS.f k l l' = some true := by
  have hlen : l.length = l'.length := by simpa using congrArg List.length h
  unfold laws_eqStringS.f
  rw [if_pos (by omega)]
  exact eq_loop l l' h hl l.length 0 k (by omega) hk

theorem FnExactJoin : ∀ (l0 : List ByteArray), l0.length ≤ 9223372036854775807 → (∀ x ∈ l0, x.size ≤ 9223372036854775807) → ∃ k, laws_FnExactJoin.f k l0 = some true := by
  intro l hl hy
  refine ⟨1048700, ?_⟩
  unfold laws_FnExactJoin.f
  obtain ⟨r, hr, h⟩ := szStr l hl hy 1048576 (by decide) (by decide) 1048700 (by decide)
  rw [hr]
  simp only [Option.bind_some]
  rcases h with h | ⟨h0, h1⟩
  · rw [if_pos h]
  · rw [if_neg (by omega), toStr l (by omega) _ (by omega)]
    simp only [Option.bind_some]
    obtain ⟨r1, e1, l1⟩ := spec_join l (by omega) (by omega) 1048700 (by omega)
    obtain ⟨r2, e2, l2⟩ := impl_join l (by omega) (by omega)
    rw [e1, e2]
    simp only [Option.bind_some]
    rw [l1, l2, if_pos rfl, eq_ok l l rfl (by omega) _ (by omega)]
    simp

end Go.Proofs.Ytfmhajlpaelmeaa.Pure
