/-
The pure statement of the law FnExactPut16 (numbers, byte strings and lists; no Go and no memory): the printed law's function answers true. Conditions: those of the printed statement (each string at most 2^47 - 4096 bytes, each number of its kind).
-/
import Derived.Test.YtlkaocaieoabaaaPFnExactPut16x1
import Derived.Test.YtlkaocaieoabaaaCore
namespace Go.Proofs.Ytlkaocaieoabaaa.Pure
open Go.RowKit Go.Proofs.Ytlkaocaieoabaaa.PFnExactPut16 Go.Proofs.YtlkaocaieoabaaaW.PrintWords Go.Proofs.YtlkaocaieoabaaaW.PrintLast Go.Proofs.Ytlkaocaieoabaaa.Core

theorem put16_eq (n : Int) (high : Bool) : spec_Put16.f n high = impl_Put16.f n high := by
  unfold spec_Put16.f impl_Put16.f
  have e : Go.bits .and .i64 n 65535 = n % 65536 := bits_and_mask n 16 (by decide)
  have h1 : 0 ≤ n % 65536 := by omega
  have h2 : Int.tdiv (n % 65536) 256 = (n % 65536) / 256 := Int.tdiv_eq_ediv_of_nonneg h1
  have h3 : Int.tmod (n % 65536) 256 = (n % 65536) % 256 := Int.tmod_eq_emod_of_nonneg h1
  have h4 : wrap64 ((n % 65536) / 256) = (n % 65536) / 256 := w64 (by omega) (by omega)
  rw [e, h2, h3, h4]
  have h5 : ((n % 65536) / 256) % 256 = (n / 256) % 256 := by omega
  have h6 : ((n % 65536) % 256) % 256 = n % 256 := by omega
  rw [h5, h6]
theorem put16_some (n : Int) (high : Bool) : ∃ s, impl_Put16.f n high = some s ∧ s.size = 2 := by
  unfold impl_Put16.f
  cases high
  · exact ⟨_, rfl, strOfNums_size _⟩
  · exact ⟨_, rfl, strOfNums_size _⟩

theorem FnExactPut16 : laws_FnExactPut16.Pure := by
  intro n high _
  unfold laws_FnExactPut16.f
  obtain ⟨s, hs, _⟩ := put16_some n high
  rw [put16_eq, hs]
  simp

end Go.Proofs.Ytlkaocaieoabaaa.Pure
