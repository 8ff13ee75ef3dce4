/- Law 14: FilterSpikes. -/
import Derived.Test.YthhipnhnpjhaaaaT14s0
import Derived.Test.YthhipnhnpjhaaaaT14s1
namespace Go.Proofs.Ythhipnhnpjhaaaa
open Go Go.RowKit Ev
set_option linter.unusedVariables false
set_option linter.unusedSimpArgs false
set_option maxRecDepth 100000
set_option maxHeartbeats 0

theorem fs_ok : fsT.Ok Try.prog (fsC []) 3000 7 fsA := ⟨trivial, ⟨trivial, ⟨⟨fs_p101, rfl⟩, ⟨fs_p100, rfl⟩⟩⟩, ⟨⟨fs_p011, rfl⟩, ⟨fs_p010, rfl⟩⟩, ⟨⟨fs_p001, rfl⟩, ⟨fs_p000, rfl⟩⟩⟩
theorem filterSpikes_walk (off far tot late : Int) (h0 : -2147483648 ≤ off ∧ off ≤ 2147483647) (h1 : 0 ≤ far ∧ far ≤ 65535) (h2 : -2147483648 ≤ tot ∧ tot ≤ 2147483647) (h3 : 0 ≤ late ∧ late ≤ 255) (w : World) :
    Calls Try.prog 7 #[.int .i32 off, .int .u16 far, .int .i32 tot, .int .u8 late] w fun e w' => e = .returned (.bool true) ∧ Below w.heap.size w w' := by
  have nm := filterSpikes_names h0 h1 h2 h3 (ρ := envOf [off, far, tot, late, off + (far + 1) * 4294967296 - tot, (5 + late) * 4294967296, off - tot, (far + 1) * 4294967296, apN 4 ((far + 1) * 4294967296) ((far + 1) * 4294967296) 0] (ap := apN)) rfl rfl rfl rfl rfl rfl rfl rfl rfl rfl
  exact law_cs (ρ := envOf [off, far, tot, late, off + (far + 1) * 4294967296 - tot, (5 + late) * 4294967296, off - tot, (far + 1) * 4294967296, apN 4 ((far + 1) * 4294967296) ((far + 1) * 4294967296) 0] (ap := apN)) (rg := fsR) (ar := arN) (args := fsA)
    ⟨h0, h1, h2, h3, ⟨by show -4294967296 ≤ off + (far + 1) * 4294967296 - tot; omega, by show off + (far + 1) * 4294967296 - tot ≤ 281479271743487; omega⟩, ⟨by show 21474836480 ≤ (5 + late) * 4294967296; omega, by show (5 + late) * 4294967296 ≤ 1116691496960; omega⟩, ⟨by show -4294967295 ≤ off - tot; omega, by show off - tot ≤ 4294967295; omega⟩, ⟨by show 4294967296 ≤ (far + 1) * 4294967296; omega, by show (far + 1) * 4294967296 ≤ 281474976710656; omega⟩, fs_m h1, trivial⟩
    (arIn_N rfl) (cs := consN.map (conNm fsN)) (consNm_ok nm.1 (consN_ok (numA_N rfl))) (cr := k14) k14_ok LpOk.none (xs := []) (fun _ _ h => by cases h) (nm := fsX) nm.2 (nz := false) fsT fs_ok (fs_good (fs_m h1)) w (ExtIn.none fun _ => rfl)
end Go.Proofs.Ythhipnhnpjhaaaa
