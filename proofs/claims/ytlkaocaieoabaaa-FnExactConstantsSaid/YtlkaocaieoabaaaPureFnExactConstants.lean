/-
The pure statement of the law FnExactConstants (numbers, byte strings and lists; no Go and no memory): the printed law's function answers true. Conditions: those of the printed statement (each string at most 2^47 - 4096 bytes, each number of its kind).
-/
import Derived.Test.YtlkaocaieoabaaaPFnExactConstantsx1
import Derived.Test.YtlkaocaieoabaaaCore
namespace Go.Proofs.Ytlkaocaieoabaaa.Pure
open Go.RowKit Go.Proofs.Ytlkaocaieoabaaa.PFnExactConstants Go.Proofs.YtlkaocaieoabaaaW.PrintWords Go.Proofs.YtlkaocaieoabaaaW.PrintLast Go.Proofs.Ytlkaocaieoabaaa.Core

theorem FnExactConstants : laws_FnExactConstants.Pure := rfl

end Go.Proofs.Ytlkaocaieoabaaa.Pure
