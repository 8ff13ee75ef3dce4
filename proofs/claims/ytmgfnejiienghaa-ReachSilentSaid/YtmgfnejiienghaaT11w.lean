/- Law 11: ReachSilent: the empty slice, and all. -/
import Derived.Test.YtmgfnejiienghaaT11v
namespace Go.Proofs.Ytmgfnejiienghaa
open Go Go.RowKit Ev
set_option linter.unusedVariables false
set_option linter.unusedSimpArgs false
set_option maxRecDepth 100000

abbrev roK : List (FuncId × List SV × SV) := [(40, [stdS, .agg [.int .u8 (.lit 0), .int .i64 (.lit 6), .int .i64 (.lit 6), .int .i64 (.lit 0), .int .i64 (.lit 0)], .int .i64 (.lit 0), .int .u32 (.lit 0)], .agg [.int .u8 (.lit 0), .int .i64 (.lit 7), .int .i64 (.lit 6), .int .i64 (.lit 0), .int .i64 (.lit 274877906944)]), (39, [stdS, .agg [.int .u8 (.lit 0), .int .i64 (.lit 7), .int .i64 (.lit 6), .int .i64 (.lit 0), .int .i64 (.lit 274877906944)], .int .i64 (.lit 10)], .agg [.int .u8 (.lit 1), .int .i64 (.lit 7), .int .i64 (.lit 10), .int .i64 (.lit 0), .int .i64 (.lit 274877906944)]), (40, [stdS, .agg [.int .u8 (.lit 1), .int .i64 (.lit 7), .int .i64 (.lit 10), .int .i64 (.lit 0), .int .i64 (.lit 274877906944)], .int .i64 (.lit 274877906944), .int .u32 (.lit 0)], .agg [.int .u8 (.lit 2), .int .i64 (.lit 7), .int .i64 (.lit 10), .int .i64 (.lit 0), .int .i64 (.lit 824633720832)]), (39, [stdS, .agg [.int .u8 (.lit 2), .int .i64 (.lit 7), .int .i64 (.lit 10), .int .i64 (.lit 0), .int .i64 (.lit 824633720832)], .int .i64 (.lit 10)], .agg [.int .u8 (.lit 3), .int .i64 (.lit 7), .int .i64 (.lit 10), .int .i64 (.lit 0), .int .i64 (.lit 824633720832)]), (40, [stdS, .agg [.int .u8 (.lit 3), .int .i64 (.lit 7), .int .i64 (.lit 10), .int .i64 (.lit 0), .int .i64 (.lit 824633720832)], .int .i64 (.lit 824633720832), .int .u32 (.lit 0)], .agg [.int .u8 (.lit 6), .int .i64 (.lit 7), .int .i64 (.lit 10), .int .i64 (.lit 0), .int .i64 (.lit 1374389534720)]), (39, [stdS, .agg [.int .u8 (.lit 6), .int .i64 (.lit 7), .int .i64 (.lit 10), .int .i64 (.lit 0), .int .i64 (.lit 1374389534720)], .int .i64 (.lit 10)], .agg [.int .u8 (.lit 7), .int .i64 (.lit 7), .int .i64 (.lit 10), .int .i64 (.lit 0), .int .i64 (.lit 1374389534720)]), (40, [stdS, .agg [.int .u8 (.lit 7), .int .i64 (.lit 7), .int .i64 (.lit 10), .int .i64 (.lit 0), .int .i64 (.lit 1374389534720)], .int .i64 (.lit 1374389534720), .int .u32 (.lit 0)], .agg [.int .u8 (.lit 14), .int .i64 (.lit 7), .int .i64 (.lit 10), .int .i64 (.lit 0), .int .i64 (.lit 1924145348608)]), (39, [stdS, .agg [.int .u8 (.lit 14), .int .i64 (.lit 7), .int .i64 (.lit 10), .int .i64 (.lit 0), .int .i64 (.lit 1924145348608)], .int .i64 (.lit 10)], .agg [.int .u8 (.lit 15), .int .i64 (.lit 7), .int .i64 (.lit 10), .int .i64 (.lit 0), .int .i64 (.lit 1924145348608)]), (40, [stdS, .agg [.int .u8 (.lit 15), .int .i64 (.lit 7), .int .i64 (.lit 10), .int .i64 (.lit 0), .int .i64 (.lit 1924145348608)], .int .i64 (.lit 1924145348608), .int .u32 (.lit 0)], .agg [.int .u8 (.lit 30), .int .i64 (.lit 7), .int .i64 (.lit 10), .int .i64 (.lit 0), .int .i64 (.lit 2473901162496)]), (39, [stdS, .agg [.int .u8 (.lit 30), .int .i64 (.lit 7), .int .i64 (.lit 10), .int .i64 (.lit 0), .int .i64 (.lit 2473901162496)], .int .i64 (.lit 10)], .agg [.int .u8 (.lit 31), .int .i64 (.lit 7), .int .i64 (.lit 10), .int .i64 (.lit 0), .int .i64 (.lit 2473901162496)]), (40, [stdS, .agg [.int .u8 (.lit 31), .int .i64 (.lit 7), .int .i64 (.lit 10), .int .i64 (.lit 0), .int .i64 (.lit 2473901162496)], .int .i64 (.lit 2473901162496), .int .u32 (.lit 0)], .agg [.int .u8 (.lit 62), .int .i64 (.lit 7), .int .i64 (.lit 10), .int .i64 (.lit 0), .int .i64 (.lit 3023656976384)]), (39, [stdS, .agg [.int .u8 (.lit 62), .int .i64 (.lit 7), .int .i64 (.lit 10), .int .i64 (.lit 0), .int .i64 (.lit 3023656976384)], .int .i64 (.lit 10)], .agg [.int .u8 (.lit 63), .int .i64 (.lit 7), .int .i64 (.lit 10), .int .i64 (.lit 0), .int .i64 (.lit 3023656976384)]), (40, [stdS, .agg [.int .u8 (.lit 63), .int .i64 (.lit 7), .int .i64 (.lit 10), .int .i64 (.lit 0), .int .i64 (.lit 3023656976384)], .int .i64 (.lit 3023656976384), .int .u32 (.lit 0)], .agg [.int .u8 (.lit 126), .int .i64 (.lit 7), .int .i64 (.lit 10), .int .i64 (.lit 0), .int .i64 (.lit 3573412790272)]), (39, [stdS, .agg [.int .u8 (.lit 126), .int .i64 (.lit 7), .int .i64 (.lit 10), .int .i64 (.lit 0), .int .i64 (.lit 3573412790272)], .int .i64 (.lit 10)], .agg [.int .u8 (.lit 127), .int .i64 (.lit 7), .int .i64 (.lit 10), .int .i64 (.lit 0), .int .i64 (.lit 3573412790272)]), (40, [stdS, .agg [.int .u8 (.lit 127), .int .i64 (.lit 7), .int .i64 (.lit 10), .int .i64 (.lit 0), .int .i64 (.lit 3573412790272)], .int .i64 (.lit 3573412790272), .int .u32 (.lit 0)], .agg [.int .u8 (.lit 254), .int .i64 (.lit 7), .int .i64 (.lit 10), .int .i64 (.lit 0), .int .i64 (.lit 4123168604160)]), (39, [stdS, .agg [.int .u8 (.lit 254), .int .i64 (.lit 7), .int .i64 (.lit 10), .int .i64 (.lit 0), .int .i64 (.lit 4123168604160)], .int .i64 (.lit 10)], .agg [.int .u8 (.lit 255), .int .i64 (.lit 7), .int .i64 (.lit 10), .int .i64 (.lit 0), .int .i64 (.lit 4123168604160)]), (40, [stdS, .agg [.int .u8 (.lit 255), .int .i64 (.lit 7), .int .i64 (.lit 10), .int .i64 (.lit 0), .int .i64 (.lit 4123168604160)], .int .i64 (.lit 4123168604160), .int .u32 (.lit 0)], .agg [.int .u8 (.lit 254), .int .i64 (.lit 7), .int .i64 (.lit 10), .int .i64 (.lit 0), .int .i64 (.lit 4672924418048)]), (39, [stdS, .agg [.int .u8 (.lit 254), .int .i64 (.lit 7), .int .i64 (.lit 10), .int .i64 (.lit 0), .int .i64 (.lit 4672924418048)], .int .i64 (.lit 10)], .agg [.int .u8 (.lit 255), .int .i64 (.lit 7), .int .i64 (.lit 10), .int .i64 (.lit 0), .int .i64 (.lit 4672924418048)]), (40, [stdS, .agg [.int .u8 (.lit 255), .int .i64 (.lit 7), .int .i64 (.lit 10), .int .i64 (.lit 0), .int .i64 (.lit 4672924418048)], .int .i64 (.lit 4672924418048), .int .u32 (.lit 0)], .agg [.int .u8 (.lit 254), .int .i64 (.lit 7), .int .i64 (.lit 10), .int .i64 (.lit 0), .int .i64 (.lit 5222680231936)]), (39, [stdS, .agg [.int .u8 (.lit 254), .int .i64 (.lit 7), .int .i64 (.lit 10), .int .i64 (.lit 0), .int .i64 (.lit 5222680231936)], .int .i64 (.lit 10)], .agg [.int .u8 (.lit 255), .int .i64 (.lit 7), .int .i64 (.lit 10), .int .i64 (.lit 0), .int .i64 (.lit 5222680231936)]), (40, [stdS, .agg [.int .u8 (.lit 255), .int .i64 (.lit 7), .int .i64 (.lit 10), .int .i64 (.lit 0), .int .i64 (.lit 5222680231936)], .int .i64 (.lit 5222680231936), .int .u32 (.lit 0)], .agg [.int .u8 (.lit 254), .int .i64 (.lit 7), .int .i64 (.lit 10), .int .i64 (.lit 0), .int .i64 (.lit 5772436045824)]), (39, [stdS, .agg [.int .u8 (.lit 254), .int .i64 (.lit 7), .int .i64 (.lit 10), .int .i64 (.lit 0), .int .i64 (.lit 5772436045824)], .int .i64 (.lit 10)], .agg [.int .u8 (.lit 255), .int .i64 (.lit 7), .int .i64 (.lit 10), .int .i64 (.lit 0), .int .i64 (.lit 5772436045824)]), (40, [stdS, .agg [.int .u8 (.lit 255), .int .i64 (.lit 7), .int .i64 (.lit 10), .int .i64 (.lit 0), .int .i64 (.lit 5772436045824)], .int .i64 (.lit 5772436045824), .int .u32 (.lit 0)], .agg [.int .u8 (.lit 254), .int .i64 (.lit 7), .int .i64 (.lit 10), .int .i64 (.lit 0), .int .i64 (.lit 6322191859712)]), (39, [stdS, .agg [.int .u8 (.lit 254), .int .i64 (.lit 7), .int .i64 (.lit 10), .int .i64 (.lit 0), .int .i64 (.lit 6322191859712)], .int .i64 (.lit 10)], .agg [.int .u8 (.lit 255), .int .i64 (.lit 7), .int .i64 (.lit 10), .int .i64 (.lit 0), .int .i64 (.lit 6322191859712)]), (40, [stdS, .agg [.int .u8 (.lit 255), .int .i64 (.lit 7), .int .i64 (.lit 10), .int .i64 (.lit 0), .int .i64 (.lit 6322191859712)], .int .i64 (.lit 6322191859712), .int .u32 (.lit 0)], .agg [.int .u8 (.lit 254), .int .i64 (.lit 7), .int .i64 (.lit 10), .int .i64 (.lit 0), .int .i64 (.lit 6871947673600)]), (39, [stdS, .agg [.int .u8 (.lit 254), .int .i64 (.lit 7), .int .i64 (.lit 10), .int .i64 (.lit 0), .int .i64 (.lit 6871947673600)], .int .i64 (.lit 10)], .agg [.int .u8 (.lit 255), .int .i64 (.lit 7), .int .i64 (.lit 10), .int .i64 (.lit 0), .int .i64 (.lit 6871947673600)]), (40, [stdS, .agg [.int .u8 (.lit 255), .int .i64 (.lit 7), .int .i64 (.lit 10), .int .i64 (.lit 0), .int .i64 (.lit 6871947673600)], .int .i64 (.lit 6871947673600), .int .u32 (.lit 0)], .agg [.int .u8 (.lit 254), .int .i64 (.lit 7), .int .i64 (.lit 10), .int .i64 (.lit 0), .int .i64 (.lit 7421703487488)]), (39, [stdS, .agg [.int .u8 (.lit 254), .int .i64 (.lit 7), .int .i64 (.lit 10), .int .i64 (.lit 0), .int .i64 (.lit 7421703487488)], .int .i64 (.lit 10)], .agg [.int .u8 (.lit 255), .int .i64 (.lit 7), .int .i64 (.lit 10), .int .i64 (.lit 0), .int .i64 (.lit 7421703487488)]), (40, [stdS, .agg [.int .u8 (.lit 255), .int .i64 (.lit 7), .int .i64 (.lit 10), .int .i64 (.lit 0), .int .i64 (.lit 7421703487488)], .int .i64 (.lit 7421703487488), .int .u32 (.lit 0)], .agg [.int .u8 (.lit 254), .int .i64 (.lit 7), .int .i64 (.lit 10), .int .i64 (.lit 0), .int .i64 (.lit 7971459301376)]), (39, [stdS, .agg [.int .u8 (.lit 254), .int .i64 (.lit 7), .int .i64 (.lit 10), .int .i64 (.lit 0), .int .i64 (.lit 7971459301376)], .int .i64 (.lit 10)], .agg [.int .u8 (.lit 255), .int .i64 (.lit 7), .int .i64 (.lit 10), .int .i64 (.lit 0), .int .i64 (.lit 7971459301376)]), (40, [stdS, .agg [.int .u8 (.lit 255), .int .i64 (.lit 7), .int .i64 (.lit 10), .int .i64 (.lit 0), .int .i64 (.lit 7971459301376)], .int .i64 (.lit 7971459301376), .int .u32 (.lit 0)], .agg [.int .u8 (.lit 254), .int .i64 (.lit 7), .int .i64 (.lit 10), .int .i64 (.lit 0), .int .i64 (.lit 8521215115264)]), (39, [stdS, .agg [.int .u8 (.lit 254), .int .i64 (.lit 7), .int .i64 (.lit 10), .int .i64 (.lit 0), .int .i64 (.lit 8521215115264)], .int .i64 (.lit 10)], .agg [.int .u8 (.lit 255), .int .i64 (.lit 7), .int .i64 (.lit 10), .int .i64 (.lit 0), .int .i64 (.lit 8521215115264)]), (40, [stdS, .agg [.int .u8 (.lit 255), .int .i64 (.lit 7), .int .i64 (.lit 10), .int .i64 (.lit 0), .int .i64 (.lit 8521215115264)], .int .i64 (.lit 8521215115264), .int .u32 (.lit 0)], .agg [.int .u8 (.lit 254), .int .i64 (.lit 7), .int .i64 (.lit 10), .int .i64 (.lit 0), .int .i64 (.lit 9070970929152)]), (39, [stdS, .agg [.int .u8 (.lit 254), .int .i64 (.lit 7), .int .i64 (.lit 10), .int .i64 (.lit 0), .int .i64 (.lit 9070970929152)], .int .i64 (.lit 10)], .agg [.int .u8 (.lit 255), .int .i64 (.lit 7), .int .i64 (.lit 10), .int .i64 (.lit 0), .int .i64 (.lit 9070970929152)]), (40, [stdS, .agg [.int .u8 (.lit 255), .int .i64 (.lit 7), .int .i64 (.lit 10), .int .i64 (.lit 0), .int .i64 (.lit 9070970929152)], .int .i64 (.lit 9070970929152), .int .u32 (.lit 0)], .agg [.int .u8 (.lit 254), .int .i64 (.lit 7), .int .i64 (.lit 10), .int .i64 (.lit 0), .int .i64 (.lit 9620726743040)]), (39, [stdS, .agg [.int .u8 (.lit 254), .int .i64 (.lit 7), .int .i64 (.lit 10), .int .i64 (.lit 0), .int .i64 (.lit 9620726743040)], .int .i64 (.lit 10)], .agg [.int .u8 (.lit 255), .int .i64 (.lit 7), .int .i64 (.lit 10), .int .i64 (.lit 0), .int .i64 (.lit 9620726743040)]), (40, [stdS, .agg [.int .u8 (.lit 255), .int .i64 (.lit 7), .int .i64 (.lit 10), .int .i64 (.lit 0), .int .i64 (.lit 9620726743040)], .int .i64 (.lit 9620726743040), .int .u32 (.lit 0)], .agg [.int .u8 (.lit 254), .int .i64 (.lit 7), .int .i64 (.lit 10), .int .i64 (.lit 0), .int .i64 (.lit 10170482556928)]), (39, [stdS, .agg [.int .u8 (.lit 254), .int .i64 (.lit 7), .int .i64 (.lit 10), .int .i64 (.lit 0), .int .i64 (.lit 10170482556928)], .int .i64 (.lit 10)], .agg [.int .u8 (.lit 255), .int .i64 (.lit 7), .int .i64 (.lit 10), .int .i64 (.lit 0), .int .i64 (.lit 10170482556928)])]
theorem roK_ok {ρ : Env} : ∀ c ∈ roK, Known Try.prog ρ c := by
  intro c hc
  simp only [roK, List.mem_cons, List.not_mem_nil, or_false] at hc
  rcases hc with rfl | rfl | rfl | rfl | rfl | rfl | rfl | rfl | rfl | rfl | rfl | rfl | rfl | rfl | rfl | rfl | rfl | rfl | rfl | rfl | rfl | rfl | rfl | rfl | rfl | rfl | rfl | rfl | rfl | rfl | rfl | rfl | rfl | rfl | rfl | rfl | rfl | rfl
  · intro φ w _
    exact sent_any 0 6 6 0 0 0 (by decide) (by decide) (by decide) (by decide) (by decide) (by decide) w
  · intro φ w _
    exact heard_any 0 7 6 274877906944 10 (by decide) (by decide) (by decide) (by decide) (by decide) w
  · intro φ w _
    exact sent_any 1 7 10 274877906944 274877906944 0 (by decide) (by decide) (by decide) (by decide) (by decide) (by decide) w
  · intro φ w _
    exact heard_any 2 7 10 824633720832 10 (by decide) (by decide) (by decide) (by decide) (by decide) w
  · intro φ w _
    exact sent_any 3 7 10 824633720832 824633720832 0 (by decide) (by decide) (by decide) (by decide) (by decide) (by decide) w
  · intro φ w _
    exact heard_any 6 7 10 1374389534720 10 (by decide) (by decide) (by decide) (by decide) (by decide) w
  · intro φ w _
    exact sent_any 7 7 10 1374389534720 1374389534720 0 (by decide) (by decide) (by decide) (by decide) (by decide) (by decide) w
  · intro φ w _
    exact heard_any 14 7 10 1924145348608 10 (by decide) (by decide) (by decide) (by decide) (by decide) w
  · intro φ w _
    exact sent_any 15 7 10 1924145348608 1924145348608 0 (by decide) (by decide) (by decide) (by decide) (by decide) (by decide) w
  · intro φ w _
    exact heard_any 30 7 10 2473901162496 10 (by decide) (by decide) (by decide) (by decide) (by decide) w
  · intro φ w _
    exact sent_any 31 7 10 2473901162496 2473901162496 0 (by decide) (by decide) (by decide) (by decide) (by decide) (by decide) w
  · intro φ w _
    exact heard_any 62 7 10 3023656976384 10 (by decide) (by decide) (by decide) (by decide) (by decide) w
  · intro φ w _
    exact sent_any 63 7 10 3023656976384 3023656976384 0 (by decide) (by decide) (by decide) (by decide) (by decide) (by decide) w
  · intro φ w _
    exact heard_any 126 7 10 3573412790272 10 (by decide) (by decide) (by decide) (by decide) (by decide) w
  · intro φ w _
    exact sent_any 127 7 10 3573412790272 3573412790272 0 (by decide) (by decide) (by decide) (by decide) (by decide) (by decide) w
  · intro φ w _
    exact heard_any 254 7 10 4123168604160 10 (by decide) (by decide) (by decide) (by decide) (by decide) w
  · intro φ w _
    exact sent_any 255 7 10 4123168604160 4123168604160 0 (by decide) (by decide) (by decide) (by decide) (by decide) (by decide) w
  · intro φ w _
    exact heard_any 254 7 10 4672924418048 10 (by decide) (by decide) (by decide) (by decide) (by decide) w
  · intro φ w _
    exact sent_any 255 7 10 4672924418048 4672924418048 0 (by decide) (by decide) (by decide) (by decide) (by decide) (by decide) w
  · intro φ w _
    exact heard_any 254 7 10 5222680231936 10 (by decide) (by decide) (by decide) (by decide) (by decide) w
  · intro φ w _
    exact sent_any 255 7 10 5222680231936 5222680231936 0 (by decide) (by decide) (by decide) (by decide) (by decide) (by decide) w
  · intro φ w _
    exact heard_any 254 7 10 5772436045824 10 (by decide) (by decide) (by decide) (by decide) (by decide) w
  · intro φ w _
    exact sent_any 255 7 10 5772436045824 5772436045824 0 (by decide) (by decide) (by decide) (by decide) (by decide) (by decide) w
  · intro φ w _
    exact heard_any 254 7 10 6322191859712 10 (by decide) (by decide) (by decide) (by decide) (by decide) w
  · intro φ w _
    exact sent_any 255 7 10 6322191859712 6322191859712 0 (by decide) (by decide) (by decide) (by decide) (by decide) (by decide) w
  · intro φ w _
    exact heard_any 254 7 10 6871947673600 10 (by decide) (by decide) (by decide) (by decide) (by decide) w
  · intro φ w _
    exact sent_any 255 7 10 6871947673600 6871947673600 0 (by decide) (by decide) (by decide) (by decide) (by decide) (by decide) w
  · intro φ w _
    exact heard_any 254 7 10 7421703487488 10 (by decide) (by decide) (by decide) (by decide) (by decide) w
  · intro φ w _
    exact sent_any 255 7 10 7421703487488 7421703487488 0 (by decide) (by decide) (by decide) (by decide) (by decide) (by decide) w
  · intro φ w _
    exact heard_any 254 7 10 7971459301376 10 (by decide) (by decide) (by decide) (by decide) (by decide) w
  · intro φ w _
    exact sent_any 255 7 10 7971459301376 7971459301376 0 (by decide) (by decide) (by decide) (by decide) (by decide) (by decide) w
  · intro φ w _
    exact heard_any 254 7 10 8521215115264 10 (by decide) (by decide) (by decide) (by decide) (by decide) w
  · intro φ w _
    exact sent_any 255 7 10 8521215115264 8521215115264 0 (by decide) (by decide) (by decide) (by decide) (by decide) (by decide) w
  · intro φ w _
    exact heard_any 254 7 10 9070970929152 10 (by decide) (by decide) (by decide) (by decide) (by decide) w
  · intro φ w _
    exact sent_any 255 7 10 9070970929152 9070970929152 0 (by decide) (by decide) (by decide) (by decide) (by decide) (by decide) w
  · intro φ w _
    exact heard_any 254 7 10 9620726743040 10 (by decide) (by decide) (by decide) (by decide) (by decide) w
  · intro φ w _
    exact sent_any 255 7 10 9620726743040 9620726743040 0 (by decide) (by decide) (by decide) (by decide) (by decide) (by decide) w
  · intro φ w _
    exact heard_any 254 7 10 10170482556928 10 (by decide) (by decide) (by decide) (by decide) (by decide) w
def roT : Tree :=
(.node (.cmp .lss (.lit 0) (.ar .rem .i64 (.var 0) (.lit 20)))
 (.node (.cmp .lss (.lit 1) (.ar .rem .i64 (.var 0) (.lit 20)))
 (.node (.cmp .lss (.lit 2) (.ar .rem .i64 (.var 0) (.lit 20)))
 (.node (.cmp .lss (.lit 3) (.ar .rem .i64 (.var 0) (.lit 20)))
 (.node (.cmp .lss (.lit 4) (.ar .rem .i64 (.var 0) (.lit 20)))
 (.node (.cmp .lss (.lit 5) (.ar .rem .i64 (.var 0) (.lit 20)))
 (.node (.cmp .lss (.lit 6) (.ar .rem .i64 (.var 0) (.lit 20)))
 (.node (.cmp .lss (.lit 7) (.ar .rem .i64 (.var 0) (.lit 20)))
 (.node (.cmp .lss (.lit 8) (.ar .rem .i64 (.var 0) (.lit 20)))
 (.node (.cmp .lss (.lit 9) (.ar .rem .i64 (.var 0) (.lit 20)))
 (.node (.cmp .lss (.lit 10) (.ar .rem .i64 (.var 0) (.lit 20)))
 (.node (.cmp .lss (.lit 11) (.ar .rem .i64 (.var 0) (.lit 20)))
 (.node (.cmp .lss (.lit 12) (.ar .rem .i64 (.var 0) (.lit 20)))
 (.node (.cmp .lss (.lit 13) (.ar .rem .i64 (.var 0) (.lit 20)))
 (.node (.cmp .lss (.lit 14) (.ar .rem .i64 (.var 0) (.lit 20)))
 (.node (.cmp .lss (.lit 15) (.ar .rem .i64 (.var 0) (.lit 20)))
 (.node (.cmp .lss (.lit 16) (.ar .rem .i64 (.var 0) (.lit 20)))
 (.node (.cmp .lss (.lit 17) (.ar .rem .i64 (.var 0) (.lit 20)))
 (.node (.cmp .lss (.lit 18) (.ar .rem .i64 (.var 0) (.lit 20)))
 (.leaf (.bool (.lit true)))
 (.leaf (.bool (.lit true))))
 (.leaf (.bool (.lit true))))
 (.leaf (.bool (.lit true))))
 (.leaf (.bool (.lit true))))
 (.leaf (.bool (.lit true))))
 (.leaf (.bool (.lit true))))
 (.leaf (.bool (.lit true))))
 (.leaf (.bool (.lit true))))
 (.leaf (.bool (.lit true))))
 (.leaf (.bool (.lit true))))
 (.leaf (.bool (.lit true))))
 (.leaf (.bool (.lit true))))
 (.leaf (.bool (.lit true))))
 (.leaf (.bool (.lit true))))
 (.leaf (.bool (.lit true))))
 (.leaf (.bool (.lit true))))
 (.leaf (.bool (.lit true))))
 (.leaf (.bool (.lit true))))
 (.leaf (.bool (.lit true))))
theorem ro_check (a : Option Addr) (cap : Nat) : roT.check Try.prog { pc := [], cr := (kR11 ++ roK) ++ crS, rg := [(0, 255)], ar := arN, ct := conCt [(0, 255)] arN consN } 600 14 [.raw (.slice a 0 cap), .int .u8 (.var 0)] = true := by
  kernel_rfl
theorem roT_val (v : Int) : roT.val (envOf [v] (ap := apN)) = .bool true := by
  have two : ∀ (c : Bool) (x : Value), x = .bool true → (bif c then x else .bool true) = .bool true := fun c x h => by cases c; rfl; exact h
  simp only [roT, Tree.val, SV.den, BE.den]
  refine two _ _ ?_
  refine two _ _ ?_
  refine two _ _ ?_
  refine two _ _ ?_
  refine two _ _ ?_
  refine two _ _ ?_
  refine two _ _ ?_
  refine two _ _ ?_
  refine two _ _ ?_
  refine two _ _ ?_
  refine two _ _ ?_
  refine two _ _ ?_
  refine two _ _ ?_
  refine two _ _ ?_
  refine two _ _ ?_
  refine two _ _ ?_
  refine two _ _ ?_
  refine two _ _ ?_
  exact two _ _ rfl
theorem reachSilent_walk {W : World} {u : Value} (hu : IsXs [.int .u32] W u) (v : Int) (hv : 0 ≤ v ∧ v ≤ 255) :
    Calls Try.prog 14 #[u, .int .u8 v] W fun e w' => e = .returned (.bool true) ∧ Below W.heap.size W w' := by
  rcases hu.rows with ⟨a, cap, rfl⟩ | ⟨B, rows, hB⟩
  · exact law_any (bs := []) (fs := []) (is := [v]) (rg := [(0, 255)]) (args := [.raw (.slice a 0 cap), .int .u8 (.var 0)]) ⟨hv, trivial⟩ (cr := kR11 ++ roK) (fun c hc => by
      rcases List.mem_append.1 hc with hc | hc
      · exact kR11_ok c hc
      · exact roK_ok c hc) roT (n := 600) (ro_check a cap) (Tree.whole_live (by kernel_rfl)) (roT_val v) W
  · obtain ⟨dr, rfl⟩ : ∃ dr, rows = [dr] := by
      have := hB.len
      match rows, this with
      | [x], _ => exact ⟨x, rfl⟩
    exact reachSilent_some hB v hv
end Go.Proofs.Ytmgfnejiienghaa
