/- V18d -/
import Derived.Test.YtakkdadfikcpoaaGreatV18s
namespace Go.Lz
set_option linter.unusedVariables false
set_option linter.unusedSimpArgs false
open Go.Proofs
attribute [-go_sem] q_cond g_b gd_b
set_option maxRecDepth 100000
set_option maxHeartbeats 4000000
noncomputable section
def lazarettolaw18_ImageChecks (m : api_Image) : Option Bool :=
  (lazarettolaw18_Few m).bind fun r_1 => if r_1 = 0 then ((lazarettolaw18_awake).bind fun r_2 => some r_2) else ((image_Encode m).bind fun r_3 => (lazarettoref18_Encode m).bind fun r_4 => if r_3.1 = r_4.1 then (if r_3.2 = r_4.2 then ((image_Check m).bind fun r_5 => (lazarettoref18_Check m).bind fun r_6 => if r_5 = r_6 then ((lazarettolaw18_awake).bind fun r_7 => some r_7) else (some false)) else (some false)) else (some false))
def lazarettolaw18_ImageDecodes (s : Str) : Option Bool :=
  if 300000 < (s.length : Int) then ((lazarettolaw18_awake).bind fun r_1 => some r_1) else ((image_Decode s).bind fun r_2 => (lazarettoref18_Decode s).bind fun r_3 => (lazarettoref18_Same r_2.1 r_3.1).bind fun r_4 => if r_4 = true then (if r_2.2 = r_3.2 then ((lazarettolaw18_awake).bind fun r_5 => some r_5) else (some false)) else (some false))
end
theorem lazarettolaw18_ImageChecks_ok {m : api_Image} {r : Bool} (h : lazarettolaw18_ImageChecks m = some r) :
    Pu Tryz.prog 3 [.agg (e_api_Image m)] (.one (.bool r)) := by
  have F := trivial; have R := trivial
  refine pA Tryz.func3 ?_
  simp only [Tryz.f3]
  unfold lazarettolaw18_ImageChecks at h
  refine bi h fun r_1 h hr_1 => ?_
  refine tt ?_
  repeat (first | (with_reducible intro _) | (with_reducible refine and_i ?_ ?_; exact ss))
  refine cS (lazarettolaw18_Few_ok hr_1) ?_
  refine fi h F (fun h _ F => ?_) (fun h _ F => ?_)
  refine bi h fun r_2 h hr_2 => ?_
  refine tt ?_
  repeat (first | (with_reducible intro _) | (with_reducible refine and_i ?_ ?_; exact ss))
  refine cS (lazarettolaw18_awake_ok hr_2) ?_
  cases h; exact fin
  refine bi h fun r_3 h hr_3 => ?_
  refine tt ?_
  repeat (first | (with_reducible intro _) | (with_reducible refine and_i ?_ ?_; exact ss))
  refine cS (image_Encode_ok hr_3) ?_
  refine bi h fun r_4 h hr_4 => ?_
  refine tt ?_
  repeat (first | (with_reducible intro _) | (with_reducible refine and_i ?_ ?_; exact ss))
  refine cS (lazarettoref18_Encode_ok hr_4) ?_
  refine tt ?_
  repeat (first | (with_reducible intro _) | (with_reducible refine and_i ?_ ?_; exact ss))
  refine fi h F (fun h _ F => ?_) (fun h _ F => ?_)
  refine tt ?_
  repeat (first | (with_reducible intro _) | (with_reducible refine and_i ?_ ?_; exact ss))
  refine fi h F (fun h _ F => ?_) (fun h _ F => ?_)
  refine bi h fun r_5 h hr_5 => ?_
  refine tt ?_
  repeat (first | (with_reducible intro _) | (with_reducible refine and_i ?_ ?_; exact ss))
  refine cD (image_Check_ok hr_5) ?_
  refine bi h fun r_6 h hr_6 => ?_
  refine tt ?_
  repeat (first | (with_reducible intro _) | (with_reducible refine and_i ?_ ?_; exact ss))
  refine cD (lazarettoref18_Check_ok hr_6) ?_
  refine tt ?_
  repeat (first | (with_reducible intro _) | (with_reducible refine and_i ?_ ?_; exact ss))
  refine fi h F (fun h _ F => ?_) (fun h _ F => ?_)
  refine bi h fun r_7 h hr_7 => ?_
  refine tt ?_
  repeat (first | (with_reducible intro _) | (with_reducible refine and_i ?_ ?_; exact ss))
  refine cD (lazarettolaw18_awake_ok hr_7) ?_
  cases h; exact fin
  cases h; exact fin
  cases h; exact fin
  cases h; exact fin
theorem lazarettolaw18_ImageDecodes_ok {s : Str} {r : Bool} (h : lazarettolaw18_ImageDecodes s = some r) :
    Pu Tryz.prog 4 [.one (.str s)] (.one (.bool r)) := by
  have F := trivial; have R := trivial
  refine pA Tryz.func4 ?_
  simp only [Tryz.f4]
  unfold lazarettolaw18_ImageDecodes at h
  refine tt ?_
  repeat (first | (with_reducible intro _) | (with_reducible refine and_i ?_ ?_; exact ss))
  refine fi h F (fun h _ F => ?_) (fun h _ F => ?_)
  refine bi h fun r_1 h hr_1 => ?_
  refine tt ?_
  repeat (first | (with_reducible intro _) | (with_reducible refine and_i ?_ ?_; exact ss))
  refine cS (lazarettolaw18_awake_ok hr_1) ?_
  cases h; exact fin
  refine bi h fun r_2 h hr_2 => ?_
  refine tt ?_
  repeat (first | (with_reducible intro _) | (with_reducible refine and_i ?_ ?_; exact ss))
  refine cS (image_Decode_ok hr_2) ?_
  refine bi h fun r_3 h hr_3 => ?_
  refine tt ?_
  repeat (first | (with_reducible intro _) | (with_reducible refine and_i ?_ ?_; exact ss))
  refine cS (lazarettoref18_Decode_ok hr_3) ?_
  refine bi h fun r_4 h hr_4 => ?_
  refine tt ?_
  repeat (first | (with_reducible intro _) | (with_reducible refine and_i ?_ ?_; exact ss))
  refine cS (lazarettoref18_Same_ok hr_4) ?_
  refine fv h F (fun h _ F => ?_) (fun h _ F => ?_)
  refine fi h F (fun h _ F => ?_) (fun h _ F => ?_)
  refine bi h fun r_5 h hr_5 => ?_
  refine tt ?_
  repeat (first | (with_reducible intro _) | (with_reducible refine and_i ?_ ?_; exact ss))
  refine cS (lazarettolaw18_awake_ok hr_5) ?_
  cases h; exact fin
  cases h; exact fin
  cases h; exact fin
end Go.Lz
