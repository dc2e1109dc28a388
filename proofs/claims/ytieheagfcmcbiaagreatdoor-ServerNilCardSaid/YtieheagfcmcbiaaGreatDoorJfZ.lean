/-
The row's closed facts, put together.
-/
import Derived.Test.YtieheagfcmcbiaaGreatDoorJfA
import Derived.Test.YtieheagfcmcbiaaGreatDoorJfB
import Derived.Test.YtieheagfcmcbiaaGreatDoorJfC
import Derived.Test.YtieheagfcmcbiaaGreatDoorJfD
import Derived.Test.YtieheagfcmcbiaaGreatDoorJfE
import Derived.Test.YtieheagfcmcbiaaGreatDoorJfF
import Derived.Test.YtieheagfcmcbiaaGreatDoorJfG
import Derived.Test.YtieheagfcmcbiaaGreatDoorJfH
import Derived.Test.YtieheagfcmcbiaaGreatDoorLyD
set_option linter.unusedVariables false
namespace Go.Proofs.YtieheagfcmcbiaaGreatDoor
open Go
theorem and_tt {a b : Bool} (h : a = true) (k : b = true) : (a && b) = true := by rw [h, k]; rfl
set_option maxRecDepth 100000 in
theorem jfacts : joinedFacts Tryz.prog 3 Tryz.f3 (OpenSpec.ofChange Rows.serverNilSpec).bare Rows.serverNilRow = true := by
  have h0 := jf_0
  have h1 := laidOutE
  have h2 := jf_2
  have h3 := jf_3
  have h4 := jf_4
  have h5 := jf_5
  have h6 := jf_6
  have h7 := jf_7
  have h8 := jf_8
  have h9 := jf_9
  have h10 := jf_10
  have h11 := jf_11
  have h12 := jf_12
  have h13 := jf_13
  have h14 := jf_14
  have h15 := jf_15
  have h16 := jf_16
  have h17 := jf_17
  have h18 := jf_18
  have h19 := jf_19
  have h20 := jf_20
  have h21 := jf_21
  have h22 := jf_22
  have h23 := jf_23
  have h24 := jf_24
  have h25 := jf_25
  have h26 := jf_26
  have h27 := jf_27
  have h28 := jf_28
  have h29 := jf_29
  have h30 := jf_30
  have h31 := jf_31
  dsimp only at h0 h2 h3 h4 h5 h6 h7 h8 h9 h10 h11 h12 h13 h14 h15 h16 h17 h18 h19 h20 h21 h22 h23 h24 h25 h26 h27 h28 h29 h30 h31
  unfold joinedFacts
  exact (and_tt (and_tt (and_tt (and_tt (and_tt (and_tt (and_tt (and_tt (and_tt (and_tt (and_tt (and_tt (and_tt (and_tt (and_tt (and_tt (and_tt (and_tt (and_tt (and_tt (and_tt (and_tt (and_tt (and_tt (and_tt (and_tt (and_tt (and_tt (and_tt (and_tt (and_tt h0 h1) h2) h3) h4) h5) h6) h7) h8) h9) h10) h11) h12) h13) h14) h15) h16) h17) h18) h19) h20) h21) h22) h23) h24) h25) h26) h27) h28) h29) h30) h31)
end Go.Proofs.YtieheagfcmcbiaaGreatDoor
