/- Chapter 9: the rounds of DriftTurns and DriftCuts together. -/
import Derived.Test.YtlbjcbcaaiggdaaT09h0
import Derived.Test.YtlbjcbcaaiggdaaT09h1
import Derived.Test.YtlbjcbcaaiggdaaT09h2
import Derived.Test.YtlbjcbcaaiggdaaT09h3
namespace Go.Proofs.Ytlbjcbcaaiggdaa
open Go Go.RowKit Ev
set_option linter.unusedVariables false
set_option linter.unusedSimpArgs false
set_option maxRecDepth 100000

theorem dt_lpB : lpB Try.prog (cx9 dtP 60 34 0) 2000 5 loP 1 dtL dtH dtT dtE [] = true :=
  lpB_of dt_lp0 ⟨⟨⟨⟨dt_a, trivial, dt_b⟩, dt_c⟩, dt_d, dt_e⟩, dt_s⟩
theorem dc_lpB : lpB Try.prog (cx9 dcP 50 41 2) 2000 6 loP 1 dcL dcH dcT dcE [.lit false, .lit false] = true :=
  lpB_of dc_lp0 ⟨⟨⟨⟨⟨trivial, dc_a⟩, dc_b, trivial⟩, dc_c, trivial⟩, ⟨trivial, dc_d⟩, dc_e⟩, dc_s⟩
end Go.Proofs.Ytlbjcbcaaiggdaa
