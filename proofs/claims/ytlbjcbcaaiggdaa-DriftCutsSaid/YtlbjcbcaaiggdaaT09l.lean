/- Chapter 9: DriftCuts: its tree, for each cut. -/
import Derived.Test.YtlbjcbcaaiggdaaT09k0
import Derived.Test.YtlbjcbcaaiggdaaT09k1
import Derived.Test.YtlbjcbcaaiggdaaT09k2
import Derived.Test.YtlbjcbcaaiggdaaT09k3
namespace Go.Proofs.Ytlbjcbcaaiggdaa
open Go Go.RowKit Ev
set_option linter.unusedVariables false
set_option linter.unusedSimpArgs false
set_option maxRecDepth 100000

theorem cut_ok : ∀ k : Nat, k < 20 → (cuT k).Ok Try.prog { cxM with pc := [(.cmp .eql (.var 4) (.lit (k : Int)), true)] } 2000 6 cuA
  | 0, _ => ⟨⟨⟨⟨cut_0a, rfl⟩, cut_0b, rfl⟩, cut_0c, rfl⟩, ⟨cut_0d, rfl⟩, cut_0e, rfl⟩
  | 1, _ => ⟨⟨⟨⟨cut_1a, rfl⟩, cut_1b, rfl⟩, cut_1c, rfl⟩, ⟨cut_1d, rfl⟩, cut_1e, rfl⟩
  | 2, _ => ⟨⟨⟨⟨cut_2a, rfl⟩, cut_2b, rfl⟩, cut_2c, rfl⟩, ⟨cut_2d, rfl⟩, cut_2e, rfl⟩
  | 3, _ => ⟨⟨⟨⟨cut_3a, rfl⟩, cut_3b, rfl⟩, cut_3c, rfl⟩, ⟨cut_3d, rfl⟩, cut_3e, rfl⟩
  | 4, _ => ⟨⟨⟨⟨cut_4a, rfl⟩, cut_4b, rfl⟩, cut_4c, rfl⟩, ⟨cut_4d, rfl⟩, cut_4e, rfl⟩
  | 5, _ => ⟨⟨⟨⟨cut_5a, rfl⟩, cut_5b, rfl⟩, cut_5c, rfl⟩, ⟨cut_5d, rfl⟩, cut_5e, rfl⟩
  | 6, _ => ⟨⟨⟨⟨cut_6a, rfl⟩, cut_6b, rfl⟩, cut_6c, rfl⟩, ⟨cut_6d, rfl⟩, cut_6e, rfl⟩
  | 7, _ => ⟨⟨⟨⟨cut_7a, rfl⟩, cut_7b, rfl⟩, cut_7c, rfl⟩, ⟨cut_7d, rfl⟩, cut_7e, rfl⟩
  | 8, _ => ⟨⟨⟨⟨cut_8a, rfl⟩, cut_8b, rfl⟩, cut_8c, rfl⟩, ⟨cut_8d, rfl⟩, cut_8e, rfl⟩
  | 9, _ => ⟨⟨⟨⟨cut_9a, rfl⟩, cut_9b, rfl⟩, cut_9c, rfl⟩, ⟨cut_9d, rfl⟩, cut_9e, rfl⟩
  | 10, _ => ⟨⟨⟨⟨cut_10a, rfl⟩, cut_10b, rfl⟩, cut_10c, rfl⟩, ⟨cut_10d, rfl⟩, cut_10e, rfl⟩
  | 11, _ => ⟨⟨⟨⟨cut_11a, rfl⟩, cut_11b, rfl⟩, cut_11c, rfl⟩, ⟨cut_11d, rfl⟩, cut_11e, rfl⟩
  | 12, _ => ⟨⟨⟨⟨cut_12a, rfl⟩, cut_12b, rfl⟩, cut_12c, rfl⟩, ⟨cut_12d, rfl⟩, cut_12e, rfl⟩
  | 13, _ => ⟨⟨⟨⟨cut_13a, rfl⟩, cut_13b, rfl⟩, cut_13c, rfl⟩, ⟨cut_13d, rfl⟩, cut_13e, rfl⟩
  | 14, _ => ⟨⟨⟨⟨cut_14a, rfl⟩, cut_14b, rfl⟩, cut_14c, rfl⟩, ⟨cut_14d, rfl⟩, cut_14e, rfl⟩
  | 15, _ => ⟨⟨⟨⟨cut_15a, rfl⟩, cut_15b, rfl⟩, cut_15c, rfl⟩, ⟨cut_15d, rfl⟩, cut_15e, rfl⟩
  | 16, _ => ⟨⟨⟨⟨cut_16a, rfl⟩, cut_16b, rfl⟩, cut_16c, rfl⟩, ⟨cut_16d, rfl⟩, cut_16e, rfl⟩
  | 17, _ => ⟨⟨⟨⟨trivial, cut_17a, rfl⟩, ⟨cut_17b, rfl⟩, trivial⟩, ⟨cut_17c, rfl⟩, trivial⟩, ⟨trivial, cut_17d, rfl⟩, cut_17e, rfl⟩
  | 18, _ => ⟨⟨⟨⟨trivial, cut_18a, rfl⟩, ⟨cut_18b, rfl⟩, trivial⟩, ⟨cut_18c, rfl⟩, trivial⟩, ⟨trivial, cut_18d, rfl⟩, cut_18e, rfl⟩
  | 19, _ => ⟨⟨⟨⟨trivial, cut_19a, rfl⟩, ⟨cut_19b, rfl⟩, trivial⟩, ⟨cut_19c, rfl⟩, trivial⟩, ⟨trivial, cut_19d, rfl⟩, cut_19e, rfl⟩
  | n + 20, h => absurd h (by omega)
end Go.Proofs.Ytlbjcbcaaiggdaa
