/-
The pure statement of the law FnExactPut32 (numbers, byte strings and lists; no Go and no memory): the printed law's function answers true. Conditions: those of the printed statement (each string at most 2^47 - 4096 bytes, each number of its kind).
-/
import Derived.Test.YtlkaocaieoabaaaPFnExactPut32x1
import Derived.Test.YtlkaocaieoabaaaCore
namespace Go.Proofs.Ytlkaocaieoabaaa.Pure
open Go.RowKit Go.Proofs.Ytlkaocaieoabaaa.PFnExactPut32 Go.Proofs.YtlkaocaieoabaaaW.PrintWords Go.Proofs.YtlkaocaieoabaaaW.PrintLast Go.Proofs.Ytlkaocaieoabaaa.Core

theorem put16_eq (n : Int) (high : Bool) : spec_Put16.f n high = impl_Put16.f n high := by
  unfold spec_Put16.f impl_Put16.f
  have e : Go.bits .and .i64 n 65535 = n % 65536 := bits_and_mask n 16 (by decide)
  have h1 : 0 ≤ n % 65536 := by omega
  have h2 : Int.tdiv (n % 65536) 256 = (n % 65536) / 256 := Int.tdiv_eq_ediv_of_nonneg h1
  have h3 : Int.tmod (n % 65536) 256 = (n % 65536) % 256 := Int.tmod_eq_emod_of_nonneg h1
  have h4 : wrap64 ((n % 65536) / 256) = (n % 65536) / 256 := w64 (by omega) (by omega)
  rw [e, h2, h3, h4]
  have h5 : ((n % 65536) / 256) % 256 = (n / 256) % 256 := by omega
  have h6 : ((n % 65536) % 256) % 256 = n % 256 := by omega
  rw [h5, h6]
theorem put16_some (n : Int) (high : Bool) : ∃ s, impl_Put16.f n high = some s ∧ s.size = 2 := by
  unfold impl_Put16.f
  cases high
  · exact ⟨_, rfl, strOfNums_size _⟩
  · exact ⟨_, rfl, strOfNums_size _⟩

theorem put32_eq (n : Int) (high : Bool) : spec_Put32.f n high = impl_Put32.f n high := by
  unfold spec_Put32.f impl_Put32.f
  rw [put16_eq, put16_eq]
theorem put32_some (n : Int) (high : Bool) : ∃ s, impl_Put32.f n high = some s ∧ s.size = 4 := by
  unfold impl_Put32.f
  obtain ⟨s, hs, h2⟩ := put16_some (n / 65536) high
  obtain ⟨t, ht, h3⟩ := put16_some n high
  rw [hs, ht]
  simp only [Option.bind_some]
  rw [if_pos (by omega)]
  exact ⟨_, rfl, by rw [ByteArray.size_append]; omega⟩

theorem FnExactPut32 : laws_FnExactPut32.Pure := by
  intro n high _
  unfold laws_FnExactPut32.f
  obtain ⟨s, hs, _⟩ := put32_some n high
  rw [put32_eq, hs]
  simp

end Go.Proofs.Ytlkaocaieoabaaa.Pure
