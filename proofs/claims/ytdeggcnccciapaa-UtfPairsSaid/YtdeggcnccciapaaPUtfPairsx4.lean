-- By gp.py, a program of this session: the print of the kit with contracts of this session's own beside it.
import Derived.Test.YtdeggcnccciapaaPUtfPairsx0
import Derived.Test.YtdeggcnccciapaaPUtfPairsx3
namespace Go.Proofs.Ytdeggcnccciapaa.PUtfPairs
open Go.RowKit Go.Proofs.YtdeggcnccciapaaW.PrintWords Go.Proofs.YtdeggcnccciapaaW.PrintLast Go.Proofs.YtdeggcnccciapaaW.PrintMore
attribute [local go_sem] max2_int min2_int max_two min_two max_three min_three max_four min_four   -- for this text's walks alone
set_option linter.unusedVariables false
set_option linter.unusedSimpArgs false

/-! ### larumlaw02_UtfPairs: function 4 -/
def larumlaw02_UtfPairs.f (k : Nat) (a0 : Int) (a1 : Int) (a2 : Int) : Option (Bool) := (utf_Pair.f a0 a1).bind fun bt122 => (if a0 ≥ 55296 then (if a1 ≥ 56320 then (if a0 ≤ 56319 then (if (bt122.2 != (decide (a1 ≤ 57343))) = true then (some false) else (if bt122.2 = true then (if (wrap64 (bt122.1)) = (wrap64 ((wrap64 ((wrap64 (65536 + (wrap64 (1024 * (wrap64 ((wrap64 (a0)) - 55296)))))) + (wrap64 (a1)))) - 56320)) then (if a2 < 65536 then ((larumlaw02_awake.f k).bind fun t124 => (some t124)) else (if a2 > 1114111 then ((larumlaw02_awake.f k).bind fun t125 => (some t125)) else ((utf_Pair.f (wrap32 (55296 + (wrap32 (Int.tdiv (wrap32 (a2 - 65536)) 1024)))) (wrap32 (56320 + (Int.tmod (wrap32 (a2 - 65536)) 1024)))).bind fun bt126 => (if bt126.2 = true then (if bt126.1 = a2 then ((larumlaw02_awake.f k).bind fun t128 => (some t128)) else (some false)) else (some false))))) else (some false)) else (if bt122.1 = 0 then (if a2 < 65536 then ((larumlaw02_awake.f k).bind fun t129 => (some t129)) else (if a2 > 1114111 then ((larumlaw02_awake.f k).bind fun t130 => (some t130)) else ((utf_Pair.f (wrap32 (55296 + (wrap32 (Int.tdiv (wrap32 (a2 - 65536)) 1024)))) (wrap32 (56320 + (Int.tmod (wrap32 (a2 - 65536)) 1024)))).bind fun bt131 => (if bt131.2 = true then (if bt131.1 = a2 then ((larumlaw02_awake.f k).bind fun t133 => (some t133)) else (some false)) else (some false))))) else (some false)))) else (if (bt122.2 != false) = true then (some false) else (if bt122.2 = true then (if (wrap64 (bt122.1)) = (wrap64 ((wrap64 ((wrap64 (65536 + (wrap64 (1024 * (wrap64 ((wrap64 (a0)) - 55296)))))) + (wrap64 (a1)))) - 56320)) then (if a2 < 65536 then ((larumlaw02_awake.f k).bind fun t134 => (some t134)) else (if a2 > 1114111 then ((larumlaw02_awake.f k).bind fun t135 => (some t135)) else ((utf_Pair.f (wrap32 (55296 + (wrap32 (Int.tdiv (wrap32 (a2 - 65536)) 1024)))) (wrap32 (56320 + (Int.tmod (wrap32 (a2 - 65536)) 1024)))).bind fun bt136 => (if bt136.2 = true then (if bt136.1 = a2 then ((larumlaw02_awake.f k).bind fun t138 => (some t138)) else (some false)) else (some false))))) else (some false)) else (if bt122.1 = 0 then (if a2 < 65536 then ((larumlaw02_awake.f k).bind fun t139 => (some t139)) else (if a2 > 1114111 then ((larumlaw02_awake.f k).bind fun t140 => (some t140)) else ((utf_Pair.f (wrap32 (55296 + (wrap32 (Int.tdiv (wrap32 (a2 - 65536)) 1024)))) (wrap32 (56320 + (Int.tmod (wrap32 (a2 - 65536)) 1024)))).bind fun bt141 => (if bt141.2 = true then (if bt141.1 = a2 then ((larumlaw02_awake.f k).bind fun t143 => (some t143)) else (some false)) else (some false))))) else (some false))))) else (if a0 ≤ 56319 then (if (bt122.2 != false) = true then (some false) else (if bt122.2 = true then (if (wrap64 (bt122.1)) = (wrap64 ((wrap64 ((wrap64 (65536 + (wrap64 (1024 * (wrap64 ((wrap64 (a0)) - 55296)))))) + (wrap64 (a1)))) - 56320)) then (if a2 < 65536 then ((larumlaw02_awake.f k).bind fun t144 => (some t144)) else (if a2 > 1114111 then ((larumlaw02_awake.f k).bind fun t145 => (some t145)) else ((utf_Pair.f (wrap32 (55296 + (wrap32 (Int.tdiv (wrap32 (a2 - 65536)) 1024)))) (wrap32 (56320 + (Int.tmod (wrap32 (a2 - 65536)) 1024)))).bind fun bt146 => (if bt146.2 = true then (if bt146.1 = a2 then ((larumlaw02_awake.f k).bind fun t148 => (some t148)) else (some false)) else (some false))))) else (some false)) else (if bt122.1 = 0 then (if a2 < 65536 then ((larumlaw02_awake.f k).bind fun t149 => (some t149)) else (if a2 > 1114111 then ((larumlaw02_awake.f k).bind fun t150 => (some t150)) else ((utf_Pair.f (wrap32 (55296 + (wrap32 (Int.tdiv (wrap32 (a2 - 65536)) 1024)))) (wrap32 (56320 + (Int.tmod (wrap32 (a2 - 65536)) 1024)))).bind fun bt151 => (if bt151.2 = true then (if bt151.1 = a2 then ((larumlaw02_awake.f k).bind fun t153 => (some t153)) else (some false)) else (some false))))) else (some false)))) else (if (bt122.2 != false) = true then (some false) else (if bt122.2 = true then (if (wrap64 (bt122.1)) = (wrap64 ((wrap64 ((wrap64 (65536 + (wrap64 (1024 * (wrap64 ((wrap64 (a0)) - 55296)))))) + (wrap64 (a1)))) - 56320)) then (if a2 < 65536 then ((larumlaw02_awake.f k).bind fun t154 => (some t154)) else (if a2 > 1114111 then ((larumlaw02_awake.f k).bind fun t155 => (some t155)) else ((utf_Pair.f (wrap32 (55296 + (wrap32 (Int.tdiv (wrap32 (a2 - 65536)) 1024)))) (wrap32 (56320 + (Int.tmod (wrap32 (a2 - 65536)) 1024)))).bind fun bt156 => (if bt156.2 = true then (if bt156.1 = a2 then ((larumlaw02_awake.f k).bind fun t158 => (some t158)) else (some false)) else (some false))))) else (some false)) else (if bt122.1 = 0 then (if a2 < 65536 then ((larumlaw02_awake.f k).bind fun t159 => (some t159)) else (if a2 > 1114111 then ((larumlaw02_awake.f k).bind fun t160 => (some t160)) else ((utf_Pair.f (wrap32 (55296 + (wrap32 (Int.tdiv (wrap32 (a2 - 65536)) 1024)))) (wrap32 (56320 + (Int.tmod (wrap32 (a2 - 65536)) 1024)))).bind fun bt161 => (if bt161.2 = true then (if bt161.1 = a2 then ((larumlaw02_awake.f k).bind fun t163 => (some t163)) else (some false)) else (some false))))) else (some false)))))) else (if a1 ≥ 56320 then (if (bt122.2 != false) = true then (some false) else (if bt122.2 = true then (if (wrap64 (bt122.1)) = (wrap64 ((wrap64 ((wrap64 (65536 + (wrap64 (1024 * (wrap64 ((wrap64 (a0)) - 55296)))))) + (wrap64 (a1)))) - 56320)) then (if a2 < 65536 then ((larumlaw02_awake.f k).bind fun t164 => (some t164)) else (if a2 > 1114111 then ((larumlaw02_awake.f k).bind fun t165 => (some t165)) else ((utf_Pair.f (wrap32 (55296 + (wrap32 (Int.tdiv (wrap32 (a2 - 65536)) 1024)))) (wrap32 (56320 + (Int.tmod (wrap32 (a2 - 65536)) 1024)))).bind fun bt166 => (if bt166.2 = true then (if bt166.1 = a2 then ((larumlaw02_awake.f k).bind fun t168 => (some t168)) else (some false)) else (some false))))) else (some false)) else (if bt122.1 = 0 then (if a2 < 65536 then ((larumlaw02_awake.f k).bind fun t169 => (some t169)) else (if a2 > 1114111 then ((larumlaw02_awake.f k).bind fun t170 => (some t170)) else ((utf_Pair.f (wrap32 (55296 + (wrap32 (Int.tdiv (wrap32 (a2 - 65536)) 1024)))) (wrap32 (56320 + (Int.tmod (wrap32 (a2 - 65536)) 1024)))).bind fun bt171 => (if bt171.2 = true then (if bt171.1 = a2 then ((larumlaw02_awake.f k).bind fun t173 => (some t173)) else (some false)) else (some false))))) else (some false)))) else (if (bt122.2 != false) = true then (some false) else (if bt122.2 = true then (if (wrap64 (bt122.1)) = (wrap64 ((wrap64 ((wrap64 (65536 + (wrap64 (1024 * (wrap64 ((wrap64 (a0)) - 55296)))))) + (wrap64 (a1)))) - 56320)) then (if a2 < 65536 then ((larumlaw02_awake.f k).bind fun t174 => (some t174)) else (if a2 > 1114111 then ((larumlaw02_awake.f k).bind fun t175 => (some t175)) else ((utf_Pair.f (wrap32 (55296 + (wrap32 (Int.tdiv (wrap32 (a2 - 65536)) 1024)))) (wrap32 (56320 + (Int.tmod (wrap32 (a2 - 65536)) 1024)))).bind fun bt176 => (if bt176.2 = true then (if bt176.1 = a2 then ((larumlaw02_awake.f k).bind fun t178 => (some t178)) else (some false)) else (some false))))) else (some false)) else (if bt122.1 = 0 then (if a2 < 65536 then ((larumlaw02_awake.f k).bind fun t179 => (some t179)) else (if a2 > 1114111 then ((larumlaw02_awake.f k).bind fun t180 => (some t180)) else ((utf_Pair.f (wrap32 (55296 + (wrap32 (Int.tdiv (wrap32 (a2 - 65536)) 1024)))) (wrap32 (56320 + (Int.tmod (wrap32 (a2 - 65536)) 1024)))).bind fun bt181 => (if bt181.2 = true then (if bt181.1 = a2 then ((larumlaw02_awake.f k).bind fun t183 => (some t183)) else (some false)) else (some false))))) else (some false))))))
theorem larumlaw02_UtfPairs.mono : ∀ a0 a1 a2 k, LeO (larumlaw02_UtfPairs.f k a0 a1 a2) (larumlaw02_UtfPairs.f (k + 1) a0 a1 a2) := by
  intro a0 a1 a2 k
  unfold larumlaw02_UtfPairs.f
  repeat' first
      | (with_reducible exact larumlaw02_awake.mono _)
      | (with_reducible exact LeO.refl _)
      | (with_reducible exact LeO.none _)
      | (with_reducible refine LeO.ite ?_ ?_)
      | (with_reducible refine LeO.bind ?_ (fun _ => ?_))
      | exact larumlaw02_awake.mono _
      | exact LeO.none _
      | refine LeO.ite ?_ ?_
      | refine LeO.bind ?_ (fun _ => ?_)
set_option maxHeartbeats 8000000 in
set_option maxRecDepth 100000 in
theorem larumlaw02_UtfPairs.calls (k : Nat) (a0 : Int) (a1 : Int) (a2 : Int) (r : Bool) (w : World) (h : larumlaw02_UtfPairs.f k a0 a1 a2 = some r) :
    Calls Try.prog 4 #[.int .i32 a0, .int .i32 a1, .int .i32 a2] w fun e w' => e = .returned (.bool r) ∧ Below w.heap.size w w' := by
  have HB := Aside0.mk (Below.refl w.heap.size w)
  have H : ((utf_Pair.f a0 a1).bind fun bt122 => (if a0 ≥ 55296 then (if a1 ≥ 56320 then (if a0 ≤ 56319 then (if (bt122.2 != (decide (a1 ≤ 57343))) = true then (some false) else (if bt122.2 = true then (if (wrap64 (bt122.1)) = (wrap64 ((wrap64 ((wrap64 (65536 + (wrap64 (1024 * (wrap64 ((wrap64 (a0)) - 55296)))))) + (wrap64 (a1)))) - 56320)) then (if a2 < 65536 then ((larumlaw02_awake.f k).bind fun t124 => (some t124)) else (if a2 > 1114111 then ((larumlaw02_awake.f k).bind fun t125 => (some t125)) else ((utf_Pair.f (wrap32 (55296 + (wrap32 (Int.tdiv (wrap32 (a2 - 65536)) 1024)))) (wrap32 (56320 + (Int.tmod (wrap32 (a2 - 65536)) 1024)))).bind fun bt126 => (if bt126.2 = true then (if bt126.1 = a2 then ((larumlaw02_awake.f k).bind fun t128 => (some t128)) else (some false)) else (some false))))) else (some false)) else (if bt122.1 = 0 then (if a2 < 65536 then ((larumlaw02_awake.f k).bind fun t129 => (some t129)) else (if a2 > 1114111 then ((larumlaw02_awake.f k).bind fun t130 => (some t130)) else ((utf_Pair.f (wrap32 (55296 + (wrap32 (Int.tdiv (wrap32 (a2 - 65536)) 1024)))) (wrap32 (56320 + (Int.tmod (wrap32 (a2 - 65536)) 1024)))).bind fun bt131 => (if bt131.2 = true then (if bt131.1 = a2 then ((larumlaw02_awake.f k).bind fun t133 => (some t133)) else (some false)) else (some false))))) else (some false)))) else (if (bt122.2 != false) = true then (some false) else (if bt122.2 = true then (if (wrap64 (bt122.1)) = (wrap64 ((wrap64 ((wrap64 (65536 + (wrap64 (1024 * (wrap64 ((wrap64 (a0)) - 55296)))))) + (wrap64 (a1)))) - 56320)) then (if a2 < 65536 then ((larumlaw02_awake.f k).bind fun t134 => (some t134)) else (if a2 > 1114111 then ((larumlaw02_awake.f k).bind fun t135 => (some t135)) else ((utf_Pair.f (wrap32 (55296 + (wrap32 (Int.tdiv (wrap32 (a2 - 65536)) 1024)))) (wrap32 (56320 + (Int.tmod (wrap32 (a2 - 65536)) 1024)))).bind fun bt136 => (if bt136.2 = true then (if bt136.1 = a2 then ((larumlaw02_awake.f k).bind fun t138 => (some t138)) else (some false)) else (some false))))) else (some false)) else (if bt122.1 = 0 then (if a2 < 65536 then ((larumlaw02_awake.f k).bind fun t139 => (some t139)) else (if a2 > 1114111 then ((larumlaw02_awake.f k).bind fun t140 => (some t140)) else ((utf_Pair.f (wrap32 (55296 + (wrap32 (Int.tdiv (wrap32 (a2 - 65536)) 1024)))) (wrap32 (56320 + (Int.tmod (wrap32 (a2 - 65536)) 1024)))).bind fun bt141 => (if bt141.2 = true then (if bt141.1 = a2 then ((larumlaw02_awake.f k).bind fun t143 => (some t143)) else (some false)) else (some false))))) else (some false))))) else (if a0 ≤ 56319 then (if (bt122.2 != false) = true then (some false) else (if bt122.2 = true then (if (wrap64 (bt122.1)) = (wrap64 ((wrap64 ((wrap64 (65536 + (wrap64 (1024 * (wrap64 ((wrap64 (a0)) - 55296)))))) + (wrap64 (a1)))) - 56320)) then (if a2 < 65536 then ((larumlaw02_awake.f k).bind fun t144 => (some t144)) else (if a2 > 1114111 then ((larumlaw02_awake.f k).bind fun t145 => (some t145)) else ((utf_Pair.f (wrap32 (55296 + (wrap32 (Int.tdiv (wrap32 (a2 - 65536)) 1024)))) (wrap32 (56320 + (Int.tmod (wrap32 (a2 - 65536)) 1024)))).bind fun bt146 => (if bt146.2 = true then (if bt146.1 = a2 then ((larumlaw02_awake.f k).bind fun t148 => (some t148)) else (some false)) else (some false))))) else (some false)) else (if bt122.1 = 0 then (if a2 < 65536 then ((larumlaw02_awake.f k).bind fun t149 => (some t149)) else (if a2 > 1114111 then ((larumlaw02_awake.f k).bind fun t150 => (some t150)) else ((utf_Pair.f (wrap32 (55296 + (wrap32 (Int.tdiv (wrap32 (a2 - 65536)) 1024)))) (wrap32 (56320 + (Int.tmod (wrap32 (a2 - 65536)) 1024)))).bind fun bt151 => (if bt151.2 = true then (if bt151.1 = a2 then ((larumlaw02_awake.f k).bind fun t153 => (some t153)) else (some false)) else (some false))))) else (some false)))) else (if (bt122.2 != false) = true then (some false) else (if bt122.2 = true then (if (wrap64 (bt122.1)) = (wrap64 ((wrap64 ((wrap64 (65536 + (wrap64 (1024 * (wrap64 ((wrap64 (a0)) - 55296)))))) + (wrap64 (a1)))) - 56320)) then (if a2 < 65536 then ((larumlaw02_awake.f k).bind fun t154 => (some t154)) else (if a2 > 1114111 then ((larumlaw02_awake.f k).bind fun t155 => (some t155)) else ((utf_Pair.f (wrap32 (55296 + (wrap32 (Int.tdiv (wrap32 (a2 - 65536)) 1024)))) (wrap32 (56320 + (Int.tmod (wrap32 (a2 - 65536)) 1024)))).bind fun bt156 => (if bt156.2 = true then (if bt156.1 = a2 then ((larumlaw02_awake.f k).bind fun t158 => (some t158)) else (some false)) else (some false))))) else (some false)) else (if bt122.1 = 0 then (if a2 < 65536 then ((larumlaw02_awake.f k).bind fun t159 => (some t159)) else (if a2 > 1114111 then ((larumlaw02_awake.f k).bind fun t160 => (some t160)) else ((utf_Pair.f (wrap32 (55296 + (wrap32 (Int.tdiv (wrap32 (a2 - 65536)) 1024)))) (wrap32 (56320 + (Int.tmod (wrap32 (a2 - 65536)) 1024)))).bind fun bt161 => (if bt161.2 = true then (if bt161.1 = a2 then ((larumlaw02_awake.f k).bind fun t163 => (some t163)) else (some false)) else (some false))))) else (some false)))))) else (if a1 ≥ 56320 then (if (bt122.2 != false) = true then (some false) else (if bt122.2 = true then (if (wrap64 (bt122.1)) = (wrap64 ((wrap64 ((wrap64 (65536 + (wrap64 (1024 * (wrap64 ((wrap64 (a0)) - 55296)))))) + (wrap64 (a1)))) - 56320)) then (if a2 < 65536 then ((larumlaw02_awake.f k).bind fun t164 => (some t164)) else (if a2 > 1114111 then ((larumlaw02_awake.f k).bind fun t165 => (some t165)) else ((utf_Pair.f (wrap32 (55296 + (wrap32 (Int.tdiv (wrap32 (a2 - 65536)) 1024)))) (wrap32 (56320 + (Int.tmod (wrap32 (a2 - 65536)) 1024)))).bind fun bt166 => (if bt166.2 = true then (if bt166.1 = a2 then ((larumlaw02_awake.f k).bind fun t168 => (some t168)) else (some false)) else (some false))))) else (some false)) else (if bt122.1 = 0 then (if a2 < 65536 then ((larumlaw02_awake.f k).bind fun t169 => (some t169)) else (if a2 > 1114111 then ((larumlaw02_awake.f k).bind fun t170 => (some t170)) else ((utf_Pair.f (wrap32 (55296 + (wrap32 (Int.tdiv (wrap32 (a2 - 65536)) 1024)))) (wrap32 (56320 + (Int.tmod (wrap32 (a2 - 65536)) 1024)))).bind fun bt171 => (if bt171.2 = true then (if bt171.1 = a2 then ((larumlaw02_awake.f k).bind fun t173 => (some t173)) else (some false)) else (some false))))) else (some false)))) else (if (bt122.2 != false) = true then (some false) else (if bt122.2 = true then (if (wrap64 (bt122.1)) = (wrap64 ((wrap64 ((wrap64 (65536 + (wrap64 (1024 * (wrap64 ((wrap64 (a0)) - 55296)))))) + (wrap64 (a1)))) - 56320)) then (if a2 < 65536 then ((larumlaw02_awake.f k).bind fun t174 => (some t174)) else (if a2 > 1114111 then ((larumlaw02_awake.f k).bind fun t175 => (some t175)) else ((utf_Pair.f (wrap32 (55296 + (wrap32 (Int.tdiv (wrap32 (a2 - 65536)) 1024)))) (wrap32 (56320 + (Int.tmod (wrap32 (a2 - 65536)) 1024)))).bind fun bt176 => (if bt176.2 = true then (if bt176.1 = a2 then ((larumlaw02_awake.f k).bind fun t178 => (some t178)) else (some false)) else (some false))))) else (some false)) else (if bt122.1 = 0 then (if a2 < 65536 then ((larumlaw02_awake.f k).bind fun t179 => (some t179)) else (if a2 > 1114111 then ((larumlaw02_awake.f k).bind fun t180 => (some t180)) else ((utf_Pair.f (wrap32 (55296 + (wrap32 (Int.tdiv (wrap32 (a2 - 65536)) 1024)))) (wrap32 (56320 + (Int.tmod (wrap32 (a2 - 65536)) 1024)))).bind fun bt181 => (if bt181.2 = true then (if bt181.1 = a2 then ((larumlaw02_awake.f k).bind fun t183 => (some t183)) else (some false)) else (some false))))) else (some false))))))) = some r := h
  clear h
  replace H := Option.bind_eq_some_iff.mp H
  obtain ⟨⟨t122, t123⟩, A40, H⟩ := H
  replace H : (if a0 ≥ 55296 then (if a1 ≥ 56320 then (if a0 ≤ 56319 then (if (t123 != (decide (a1 ≤ 57343))) = true then (some false) else (if t123 = true then (if (wrap64 (t122)) = (wrap64 ((wrap64 ((wrap64 (65536 + (wrap64 (1024 * (wrap64 ((wrap64 (a0)) - 55296)))))) + (wrap64 (a1)))) - 56320)) then (if a2 < 65536 then ((larumlaw02_awake.f k).bind fun t124 => (some t124)) else (if a2 > 1114111 then ((larumlaw02_awake.f k).bind fun t125 => (some t125)) else ((utf_Pair.f (wrap32 (55296 + (wrap32 (Int.tdiv (wrap32 (a2 - 65536)) 1024)))) (wrap32 (56320 + (Int.tmod (wrap32 (a2 - 65536)) 1024)))).bind fun bt126 => (if bt126.2 = true then (if bt126.1 = a2 then ((larumlaw02_awake.f k).bind fun t128 => (some t128)) else (some false)) else (some false))))) else (some false)) else (if t122 = 0 then (if a2 < 65536 then ((larumlaw02_awake.f k).bind fun t129 => (some t129)) else (if a2 > 1114111 then ((larumlaw02_awake.f k).bind fun t130 => (some t130)) else ((utf_Pair.f (wrap32 (55296 + (wrap32 (Int.tdiv (wrap32 (a2 - 65536)) 1024)))) (wrap32 (56320 + (Int.tmod (wrap32 (a2 - 65536)) 1024)))).bind fun bt131 => (if bt131.2 = true then (if bt131.1 = a2 then ((larumlaw02_awake.f k).bind fun t133 => (some t133)) else (some false)) else (some false))))) else (some false)))) else (if (t123 != false) = true then (some false) else (if t123 = true then (if (wrap64 (t122)) = (wrap64 ((wrap64 ((wrap64 (65536 + (wrap64 (1024 * (wrap64 ((wrap64 (a0)) - 55296)))))) + (wrap64 (a1)))) - 56320)) then (if a2 < 65536 then ((larumlaw02_awake.f k).bind fun t134 => (some t134)) else (if a2 > 1114111 then ((larumlaw02_awake.f k).bind fun t135 => (some t135)) else ((utf_Pair.f (wrap32 (55296 + (wrap32 (Int.tdiv (wrap32 (a2 - 65536)) 1024)))) (wrap32 (56320 + (Int.tmod (wrap32 (a2 - 65536)) 1024)))).bind fun bt136 => (if bt136.2 = true then (if bt136.1 = a2 then ((larumlaw02_awake.f k).bind fun t138 => (some t138)) else (some false)) else (some false))))) else (some false)) else (if t122 = 0 then (if a2 < 65536 then ((larumlaw02_awake.f k).bind fun t139 => (some t139)) else (if a2 > 1114111 then ((larumlaw02_awake.f k).bind fun t140 => (some t140)) else ((utf_Pair.f (wrap32 (55296 + (wrap32 (Int.tdiv (wrap32 (a2 - 65536)) 1024)))) (wrap32 (56320 + (Int.tmod (wrap32 (a2 - 65536)) 1024)))).bind fun bt141 => (if bt141.2 = true then (if bt141.1 = a2 then ((larumlaw02_awake.f k).bind fun t143 => (some t143)) else (some false)) else (some false))))) else (some false))))) else (if a0 ≤ 56319 then (if (t123 != false) = true then (some false) else (if t123 = true then (if (wrap64 (t122)) = (wrap64 ((wrap64 ((wrap64 (65536 + (wrap64 (1024 * (wrap64 ((wrap64 (a0)) - 55296)))))) + (wrap64 (a1)))) - 56320)) then (if a2 < 65536 then ((larumlaw02_awake.f k).bind fun t144 => (some t144)) else (if a2 > 1114111 then ((larumlaw02_awake.f k).bind fun t145 => (some t145)) else ((utf_Pair.f (wrap32 (55296 + (wrap32 (Int.tdiv (wrap32 (a2 - 65536)) 1024)))) (wrap32 (56320 + (Int.tmod (wrap32 (a2 - 65536)) 1024)))).bind fun bt146 => (if bt146.2 = true then (if bt146.1 = a2 then ((larumlaw02_awake.f k).bind fun t148 => (some t148)) else (some false)) else (some false))))) else (some false)) else (if t122 = 0 then (if a2 < 65536 then ((larumlaw02_awake.f k).bind fun t149 => (some t149)) else (if a2 > 1114111 then ((larumlaw02_awake.f k).bind fun t150 => (some t150)) else ((utf_Pair.f (wrap32 (55296 + (wrap32 (Int.tdiv (wrap32 (a2 - 65536)) 1024)))) (wrap32 (56320 + (Int.tmod (wrap32 (a2 - 65536)) 1024)))).bind fun bt151 => (if bt151.2 = true then (if bt151.1 = a2 then ((larumlaw02_awake.f k).bind fun t153 => (some t153)) else (some false)) else (some false))))) else (some false)))) else (if (t123 != false) = true then (some false) else (if t123 = true then (if (wrap64 (t122)) = (wrap64 ((wrap64 ((wrap64 (65536 + (wrap64 (1024 * (wrap64 ((wrap64 (a0)) - 55296)))))) + (wrap64 (a1)))) - 56320)) then (if a2 < 65536 then ((larumlaw02_awake.f k).bind fun t154 => (some t154)) else (if a2 > 1114111 then ((larumlaw02_awake.f k).bind fun t155 => (some t155)) else ((utf_Pair.f (wrap32 (55296 + (wrap32 (Int.tdiv (wrap32 (a2 - 65536)) 1024)))) (wrap32 (56320 + (Int.tmod (wrap32 (a2 - 65536)) 1024)))).bind fun bt156 => (if bt156.2 = true then (if bt156.1 = a2 then ((larumlaw02_awake.f k).bind fun t158 => (some t158)) else (some false)) else (some false))))) else (some false)) else (if t122 = 0 then (if a2 < 65536 then ((larumlaw02_awake.f k).bind fun t159 => (some t159)) else (if a2 > 1114111 then ((larumlaw02_awake.f k).bind fun t160 => (some t160)) else ((utf_Pair.f (wrap32 (55296 + (wrap32 (Int.tdiv (wrap32 (a2 - 65536)) 1024)))) (wrap32 (56320 + (Int.tmod (wrap32 (a2 - 65536)) 1024)))).bind fun bt161 => (if bt161.2 = true then (if bt161.1 = a2 then ((larumlaw02_awake.f k).bind fun t163 => (some t163)) else (some false)) else (some false))))) else (some false)))))) else (if a1 ≥ 56320 then (if (t123 != false) = true then (some false) else (if t123 = true then (if (wrap64 (t122)) = (wrap64 ((wrap64 ((wrap64 (65536 + (wrap64 (1024 * (wrap64 ((wrap64 (a0)) - 55296)))))) + (wrap64 (a1)))) - 56320)) then (if a2 < 65536 then ((larumlaw02_awake.f k).bind fun t164 => (some t164)) else (if a2 > 1114111 then ((larumlaw02_awake.f k).bind fun t165 => (some t165)) else ((utf_Pair.f (wrap32 (55296 + (wrap32 (Int.tdiv (wrap32 (a2 - 65536)) 1024)))) (wrap32 (56320 + (Int.tmod (wrap32 (a2 - 65536)) 1024)))).bind fun bt166 => (if bt166.2 = true then (if bt166.1 = a2 then ((larumlaw02_awake.f k).bind fun t168 => (some t168)) else (some false)) else (some false))))) else (some false)) else (if t122 = 0 then (if a2 < 65536 then ((larumlaw02_awake.f k).bind fun t169 => (some t169)) else (if a2 > 1114111 then ((larumlaw02_awake.f k).bind fun t170 => (some t170)) else ((utf_Pair.f (wrap32 (55296 + (wrap32 (Int.tdiv (wrap32 (a2 - 65536)) 1024)))) (wrap32 (56320 + (Int.tmod (wrap32 (a2 - 65536)) 1024)))).bind fun bt171 => (if bt171.2 = true then (if bt171.1 = a2 then ((larumlaw02_awake.f k).bind fun t173 => (some t173)) else (some false)) else (some false))))) else (some false)))) else (if (t123 != false) = true then (some false) else (if t123 = true then (if (wrap64 (t122)) = (wrap64 ((wrap64 ((wrap64 (65536 + (wrap64 (1024 * (wrap64 ((wrap64 (a0)) - 55296)))))) + (wrap64 (a1)))) - 56320)) then (if a2 < 65536 then ((larumlaw02_awake.f k).bind fun t174 => (some t174)) else (if a2 > 1114111 then ((larumlaw02_awake.f k).bind fun t175 => (some t175)) else ((utf_Pair.f (wrap32 (55296 + (wrap32 (Int.tdiv (wrap32 (a2 - 65536)) 1024)))) (wrap32 (56320 + (Int.tmod (wrap32 (a2 - 65536)) 1024)))).bind fun bt176 => (if bt176.2 = true then (if bt176.1 = a2 then ((larumlaw02_awake.f k).bind fun t178 => (some t178)) else (some false)) else (some false))))) else (some false)) else (if t122 = 0 then (if a2 < 65536 then ((larumlaw02_awake.f k).bind fun t179 => (some t179)) else (if a2 > 1114111 then ((larumlaw02_awake.f k).bind fun t180 => (some t180)) else ((utf_Pair.f (wrap32 (55296 + (wrap32 (Int.tdiv (wrap32 (a2 - 65536)) 1024)))) (wrap32 (56320 + (Int.tmod (wrap32 (a2 - 65536)) 1024)))).bind fun bt181 => (if bt181.2 = true then (if bt181.1 = a2 then ((larumlaw02_awake.f k).bind fun t183 => (some t183)) else (some false)) else (some false))))) else (some false)))))) = some r := H
  have A4 := Aside0.mk A40
  clear A40
  by_cases c5 : a0 ≥ 55296
  · rw [if_pos c5] at H
    have c5b0 : decide (55296 ≤ a0) = true := decide_eq_true c5
    clear c5
    by_cases c6 : a1 ≥ 56320
    · rw [if_pos c6] at H
      have c6b0 : decide (56320 ≤ a1) = true := decide_eq_true c6
      clear c6
      by_cases c7 : a0 ≤ 56319
      · rw [if_pos c7] at H
        have c7b0 : decide (a0 ≤ 56319) = true := decide_eq_true c7
        clear c7
        by_cases c8 : (t123 != (decide (a1 ≤ 57343))) = true
        · rw [if_pos c8] at H
          have c8b0 : (t123 != (decide (a1 ≤ 57343))) = true := c8
          (try (have c8b1 : decide (t123 = (decide (a1 ≤ 57343))) = false := by simpa using c8))
          (try (have c8b2 : (t123 == (decide (a1 ≤ 57343))) = false := by simpa using c8))
          (try (have c8b3 : ¬ (t123 = (decide (a1 ≤ 57343))) := by simpa using c8))
          clear c8
          obtain rfl := Option.some.inj H
          go_enter Try.func4, Try.ntmps4
          go_wp2_with (first | ((with_reducible refine gate_callee (f := 10) rfl ?_); refine goesL_ (some 16) rfl rfl Try.func10 (by kernel_rfl) rfl #[.int .i32 a0, .int .i32 a1] rfl (by (try simp only [List.map_toArray, List.map_cons, List.map_nil]); first | done | rfl | (simp only [List.length_drop, List.length_take]; rfl)) ?_; (with_reducible refine (utf_Pair.calls a0 a1 t122 t123 _ A4.out).mono ?_); rintro e w' ⟨rfl, ⟨nd, rfl⟩⟩; refine ⟨_, rfl, ?_⟩))
          go_ret
          exact ⟨by first | rfl | (simp [errW_none, errW_some] <;> rfl) | (simp [*, errW_none, errW_some] <;> rfl), by repeat (first | (with_reducible first | exact HB.out | apply below_alloc | apply pw_below_drewN | apply below_drew1) | exact HB.out)⟩
        · rw [if_neg c8] at H
          have c8b0 : (t123 != (decide (a1 ≤ 57343))) = false := by simpa using c8
          (try (have c8b1 : decide (t123 = (decide (a1 ≤ 57343))) = true := by simpa using c8))
          (try (have c8b2 : (t123 == (decide (a1 ≤ 57343))) = true := by simpa using c8))
          clear c8
          by_cases c9 : t123 = true
          · subst c9
            have H1 : (if (wrap64 (t122)) = (wrap64 ((wrap64 ((wrap64 (65536 + (wrap64 (1024 * (wrap64 ((wrap64 (a0)) - 55296)))))) + (wrap64 (a1)))) - 56320)) then (if a2 < 65536 then ((larumlaw02_awake.f k).bind fun t124 => (some t124)) else (if a2 > 1114111 then ((larumlaw02_awake.f k).bind fun t125 => (some t125)) else ((utf_Pair.f (wrap32 (55296 + (wrap32 (Int.tdiv (wrap32 (a2 - 65536)) 1024)))) (wrap32 (56320 + (Int.tmod (wrap32 (a2 - 65536)) 1024)))).bind fun bt126 => (if bt126.2 = true then (if bt126.1 = a2 then ((larumlaw02_awake.f k).bind fun t128 => (some t128)) else (some false)) else (some false))))) else (some false)) = some r := by rw [if_pos rfl] at H; exact H
            clear H
            have H := H1
            clear H1
            by_cases c10 : (wrap64 (t122)) = (wrap64 ((wrap64 ((wrap64 (65536 + (wrap64 (1024 * (wrap64 ((wrap64 (a0)) - 55296)))))) + (wrap64 (a1)))) - 56320))
            · rw [if_pos c10] at H
              have c10b0 : ((wrap64 (t122)) == (wrap64 ((wrap64 ((wrap64 (65536 + (wrap64 (1024 * (wrap64 ((wrap64 (a0)) - 55296)))))) + (wrap64 (a1)))) - 56320))) = true := beq_iff_eq.mpr c10
              have c10b1 : ((wrap64 (t122)) != (wrap64 ((wrap64 ((wrap64 (65536 + (wrap64 (1024 * (wrap64 ((wrap64 (a0)) - 55296)))))) + (wrap64 (a1)))) - 56320))) = false := bne_eq_false_iff_eq.mpr c10
              clear c10
              by_cases c11 : a2 < 65536
              · rw [if_pos c11] at H
                have c11b0 : decide (a2 < 65536) = true := decide_eq_true c11
                clear c11
                replace H := Option.bind_eq_some_iff.mp H
                obtain ⟨t124, A120, H⟩ := H
                replace H : (some t124) = some r := H
                have A12 := Aside0.mk A120
                clear A120
                obtain rfl := Option.some.inj H
                go_enter Try.func4, Try.ntmps4
                go_wp2_with (first | ((with_reducible refine gate_callee (f := 10) rfl ?_); refine goesL_ (some 16) rfl rfl Try.func10 (by kernel_rfl) rfl #[.int .i32 a0, .int .i32 a1] rfl (by (try simp only [List.map_toArray, List.map_cons, List.map_nil]); first | done | rfl | (simp only [List.length_drop, List.length_take]; rfl)) ?_; (with_reducible refine (utf_Pair.calls a0 a1 t122 true _ A4.out).mono ?_); rintro e w' ⟨rfl, ⟨nd, rfl⟩⟩; refine ⟨_, rfl, ?_⟩) | ((with_reducible refine gate_callee (f := 9) rfl ?_); refine goesL_ (some 66) rfl rfl Try.func9 (by kernel_rfl) rfl #[] rfl (by (try simp only [List.map_toArray, List.map_cons, List.map_nil]); first | done | rfl | (simp only [List.length_drop, List.length_take]; rfl)) ?_; (with_reducible refine (larumlaw02_awake.calls k  t124 _ A12.out).mono ?_); rintro e w13 ⟨rfl, hb⟩; refine ⟨_, rfl, ?_⟩; have n0_ := Aside0.mk (below_step (by repeat (first | (with_reducible first | exact HB.out | apply below_alloc | apply pw_below_drewN | apply below_drew1) | exact HB.out)) hb); clear HB; have HB := n0_; clear n0_; (try clear hb); (try clear hb2); (try clear hk); (try clear hi)))
                go_ret
                exact ⟨by first | rfl | (simp [errW_none, errW_some] <;> rfl) | (simp [*, errW_none, errW_some] <;> rfl), by repeat (first | (with_reducible first | exact HB.out | apply below_alloc | apply pw_below_drewN | apply below_drew1) | exact HB.out)⟩
              · rw [if_neg c11] at H
                have c11b0 : decide (a2 < 65536) = false := decide_eq_false c11
                clear c11
                by_cases c14 : a2 > 1114111
                · rw [if_pos c14] at H
                  have c14b0 : decide (1114111 < a2) = true := decide_eq_true c14
                  clear c14
                  replace H := Option.bind_eq_some_iff.mp H
                  obtain ⟨t125, A150, H⟩ := H
                  replace H : (some t125) = some r := H
                  have A15 := Aside0.mk A150
                  clear A150
                  obtain rfl := Option.some.inj H
                  go_enter Try.func4, Try.ntmps4
                  go_wp2_with (first | ((with_reducible refine gate_callee (f := 10) rfl ?_); refine goesL_ (some 16) rfl rfl Try.func10 (by kernel_rfl) rfl #[.int .i32 a0, .int .i32 a1] rfl (by (try simp only [List.map_toArray, List.map_cons, List.map_nil]); first | done | rfl | (simp only [List.length_drop, List.length_take]; rfl)) ?_; (with_reducible refine (utf_Pair.calls a0 a1 t122 true _ A4.out).mono ?_); rintro e w' ⟨rfl, ⟨nd, rfl⟩⟩; refine ⟨_, rfl, ?_⟩) | ((with_reducible refine gate_callee (f := 9) rfl ?_); refine goesL_ (some 66) rfl rfl Try.func9 (by kernel_rfl) rfl #[] rfl (by (try simp only [List.map_toArray, List.map_cons, List.map_nil]); first | done | rfl | (simp only [List.length_drop, List.length_take]; rfl)) ?_; (with_reducible refine (larumlaw02_awake.calls k  t125 _ A15.out).mono ?_); rintro e w16 ⟨rfl, hb⟩; refine ⟨_, rfl, ?_⟩; have n0_ := Aside0.mk (below_step (by repeat (first | (with_reducible first | exact HB.out | apply below_alloc | apply pw_below_drewN | apply below_drew1) | exact HB.out)) hb); clear HB; have HB := n0_; clear n0_; (try clear hb); (try clear hb2); (try clear hk); (try clear hi)))
                  go_ret
                  exact ⟨by first | rfl | (simp [errW_none, errW_some] <;> rfl) | (simp [*, errW_none, errW_some] <;> rfl), by repeat (first | (with_reducible first | exact HB.out | apply below_alloc | apply pw_below_drewN | apply below_drew1) | exact HB.out)⟩
                · rw [if_neg c14] at H
                  have c14b0 : decide (1114111 < a2) = false := decide_eq_false c14
                  clear c14
                  replace H := Option.bind_eq_some_iff.mp H
                  obtain ⟨⟨t126, t127⟩, A170, H⟩ := H
                  replace H : (if t127 = true then (if t126 = a2 then ((larumlaw02_awake.f k).bind fun t128 => (some t128)) else (some false)) else (some false)) = some r := H
                  have A17 := Aside0.mk A170
                  clear A170
                  by_cases c18 : t127 = true
                  · subst c18
                    have H1 : (if t126 = a2 then ((larumlaw02_awake.f k).bind fun t128 => (some t128)) else (some false)) = some r := by rw [if_pos rfl] at H; exact H
                    clear H
                    have H := H1
                    clear H1
                    by_cases c19 : t126 = a2
                    · rw [if_pos c19] at H
                      have c19b0 : (t126 == a2) = true := beq_iff_eq.mpr c19
                      have c19b1 : (t126 != a2) = false := bne_eq_false_iff_eq.mpr c19
                      clear c19
                      replace H := Option.bind_eq_some_iff.mp H
                      obtain ⟨t128, A200, H⟩ := H
                      replace H : (some t128) = some r := H
                      have A20 := Aside0.mk A200
                      clear A200
                      obtain rfl := Option.some.inj H
                      go_enter Try.func4, Try.ntmps4
                      go_wp2_with (first | ((with_reducible refine gate_callee (f := 10) rfl ?_); refine goesL_ (some 16) rfl rfl Try.func10 (by kernel_rfl) rfl #[.int .i32 a0, .int .i32 a1] rfl (by (try simp only [List.map_toArray, List.map_cons, List.map_nil]); first | done | rfl | (simp only [List.length_drop, List.length_take]; rfl)) ?_; (with_reducible refine (utf_Pair.calls a0 a1 t122 true _ A4.out).mono ?_); rintro e w' ⟨rfl, ⟨nd, rfl⟩⟩; refine ⟨_, rfl, ?_⟩) | ((with_reducible refine gate_callee (f := 10) rfl ?_); refine goesL_ (some 76) rfl rfl Try.func10 (by kernel_rfl) rfl #[.int .i32 (wrap32 (55296 + (wrap32 (Int.tdiv (wrap32 (a2 - 65536)) 1024)))), .int .i32 (wrap32 (56320 + (Int.tmod (wrap32 (a2 - 65536)) 1024)))] rfl (by (try simp only [List.map_toArray, List.map_cons, List.map_nil]); first | done | rfl | (simp only [List.length_drop, List.length_take]; rfl)) ?_; (with_reducible refine (utf_Pair.calls (wrap32 (55296 + (wrap32 (Int.tdiv (wrap32 (a2 - 65536)) 1024)))) (wrap32 (56320 + (Int.tmod (wrap32 (a2 - 65536)) 1024))) t126 true _ A17.out).mono ?_); rintro e w' ⟨rfl, ⟨nd, rfl⟩⟩; refine ⟨_, rfl, ?_⟩) | (go_at_call 9; (with_reducible refine (larumlaw02_awake.calls k  t128 _ A20.out).mono ?_); rintro e w21 ⟨rfl, hb⟩; have n0_ := Aside0.mk (below_step (by repeat (first | (with_reducible first | exact HB.out | apply below_alloc | apply pw_below_drewN | apply below_drew1) | exact HB.out)) hb); clear HB; have HB := n0_; clear n0_; (try clear hb); (try clear hb2); (try clear hk); (try clear hi)))
                      go_ret
                      exact ⟨by first | rfl | (simp [errW_none, errW_some] <;> rfl) | (simp [*, errW_none, errW_some] <;> rfl), by repeat (first | (with_reducible first | exact HB.out | apply below_alloc | apply pw_below_drewN | apply below_drew1) | exact HB.out)⟩
                    · rw [if_neg c19] at H
                      have c19b0 : (t126 == a2) = false := beq_eq_false_iff_ne.mpr c19
                      have c19b1 : (t126 != a2) = true := bne_iff_ne.mpr c19
                      obtain rfl := Option.some.inj H
                      go_enter Try.func4, Try.ntmps4
                      go_wp2_with (first | ((with_reducible refine gate_callee (f := 10) rfl ?_); refine goesL_ (some 16) rfl rfl Try.func10 (by kernel_rfl) rfl #[.int .i32 a0, .int .i32 a1] rfl (by (try simp only [List.map_toArray, List.map_cons, List.map_nil]); first | done | rfl | (simp only [List.length_drop, List.length_take]; rfl)) ?_; (with_reducible refine (utf_Pair.calls a0 a1 t122 true _ A4.out).mono ?_); rintro e w' ⟨rfl, ⟨nd, rfl⟩⟩; refine ⟨_, rfl, ?_⟩) | ((with_reducible refine gate_callee (f := 10) rfl ?_); refine goesL_ (some 76) rfl rfl Try.func10 (by kernel_rfl) rfl #[.int .i32 (wrap32 (55296 + (wrap32 (Int.tdiv (wrap32 (a2 - 65536)) 1024)))), .int .i32 (wrap32 (56320 + (Int.tmod (wrap32 (a2 - 65536)) 1024)))] rfl (by (try simp only [List.map_toArray, List.map_cons, List.map_nil]); first | done | rfl | (simp only [List.length_drop, List.length_take]; rfl)) ?_; (with_reducible refine (utf_Pair.calls (wrap32 (55296 + (wrap32 (Int.tdiv (wrap32 (a2 - 65536)) 1024)))) (wrap32 (56320 + (Int.tmod (wrap32 (a2 - 65536)) 1024))) t126 true _ A17.out).mono ?_); rintro e w' ⟨rfl, ⟨nd, rfl⟩⟩; refine ⟨_, rfl, ?_⟩))
                      go_ret
                      exact ⟨by first | rfl | (simp [errW_none, errW_some] <;> rfl) | (simp [*, errW_none, errW_some] <;> rfl), by repeat (first | (with_reducible first | exact HB.out | apply below_alloc | apply pw_below_drewN | apply below_drew1) | exact HB.out)⟩
                  · replace c18 := Bool.eq_false_iff.mpr c18
                    subst c18
                    have H1 : (some false) = some r := by rw [if_neg (show ¬ (false = true) by decide)] at H; exact H
                    clear H
                    have H := H1
                    clear H1
                    obtain rfl := Option.some.inj H
                    go_enter Try.func4, Try.ntmps4
                    go_wp2_with (first | ((with_reducible refine gate_callee (f := 10) rfl ?_); refine goesL_ (some 16) rfl rfl Try.func10 (by kernel_rfl) rfl #[.int .i32 a0, .int .i32 a1] rfl (by (try simp only [List.map_toArray, List.map_cons, List.map_nil]); first | done | rfl | (simp only [List.length_drop, List.length_take]; rfl)) ?_; (with_reducible refine (utf_Pair.calls a0 a1 t122 true _ A4.out).mono ?_); rintro e w' ⟨rfl, ⟨nd, rfl⟩⟩; refine ⟨_, rfl, ?_⟩) | ((with_reducible refine gate_callee (f := 10) rfl ?_); refine goesL_ (some 76) rfl rfl Try.func10 (by kernel_rfl) rfl #[.int .i32 (wrap32 (55296 + (wrap32 (Int.tdiv (wrap32 (a2 - 65536)) 1024)))), .int .i32 (wrap32 (56320 + (Int.tmod (wrap32 (a2 - 65536)) 1024)))] rfl (by (try simp only [List.map_toArray, List.map_cons, List.map_nil]); first | done | rfl | (simp only [List.length_drop, List.length_take]; rfl)) ?_; (with_reducible refine (utf_Pair.calls (wrap32 (55296 + (wrap32 (Int.tdiv (wrap32 (a2 - 65536)) 1024)))) (wrap32 (56320 + (Int.tmod (wrap32 (a2 - 65536)) 1024))) t126 false _ A17.out).mono ?_); rintro e w' ⟨rfl, ⟨nd, rfl⟩⟩; refine ⟨_, rfl, ?_⟩))
                    go_ret
                    exact ⟨by first | rfl | (simp [errW_none, errW_some] <;> rfl) | (simp [*, errW_none, errW_some] <;> rfl), by repeat (first | (with_reducible first | exact HB.out | apply below_alloc | apply pw_below_drewN | apply below_drew1) | exact HB.out)⟩
            · rw [if_neg c10] at H
              have c10b0 : ((wrap64 (t122)) == (wrap64 ((wrap64 ((wrap64 (65536 + (wrap64 (1024 * (wrap64 ((wrap64 (a0)) - 55296)))))) + (wrap64 (a1)))) - 56320))) = false := beq_eq_false_iff_ne.mpr c10
              have c10b1 : ((wrap64 (t122)) != (wrap64 ((wrap64 ((wrap64 (65536 + (wrap64 (1024 * (wrap64 ((wrap64 (a0)) - 55296)))))) + (wrap64 (a1)))) - 56320))) = true := bne_iff_ne.mpr c10
              obtain rfl := Option.some.inj H
              go_enter Try.func4, Try.ntmps4
              go_wp2_with (first | ((with_reducible refine gate_callee (f := 10) rfl ?_); refine goesL_ (some 16) rfl rfl Try.func10 (by kernel_rfl) rfl #[.int .i32 a0, .int .i32 a1] rfl (by (try simp only [List.map_toArray, List.map_cons, List.map_nil]); first | done | rfl | (simp only [List.length_drop, List.length_take]; rfl)) ?_; (with_reducible refine (utf_Pair.calls a0 a1 t122 true _ A4.out).mono ?_); rintro e w' ⟨rfl, ⟨nd, rfl⟩⟩; refine ⟨_, rfl, ?_⟩))
              go_ret
              exact ⟨by first | rfl | (simp [errW_none, errW_some] <;> rfl) | (simp [*, errW_none, errW_some] <;> rfl), by repeat (first | (with_reducible first | exact HB.out | apply below_alloc | apply pw_below_drewN | apply below_drew1) | exact HB.out)⟩
          · replace c9 := Bool.eq_false_iff.mpr c9
            subst c9
            have H1 : (if t122 = 0 then (if a2 < 65536 then ((larumlaw02_awake.f k).bind fun t129 => (some t129)) else (if a2 > 1114111 then ((larumlaw02_awake.f k).bind fun t130 => (some t130)) else ((utf_Pair.f (wrap32 (55296 + (wrap32 (Int.tdiv (wrap32 (a2 - 65536)) 1024)))) (wrap32 (56320 + (Int.tmod (wrap32 (a2 - 65536)) 1024)))).bind fun bt131 => (if bt131.2 = true then (if bt131.1 = a2 then ((larumlaw02_awake.f k).bind fun t133 => (some t133)) else (some false)) else (some false))))) else (some false)) = some r := by rw [if_neg (show ¬ (false = true) by decide)] at H; exact H
            clear H
            have H := H1
            clear H1
            by_cases c22 : t122 = 0
            · rw [if_pos c22] at H
              have c22b0 : (t122 == 0) = true := beq_iff_eq.mpr c22
              have c22b1 : (t122 != 0) = false := bne_eq_false_iff_eq.mpr c22
              clear c22
              by_cases c23 : a2 < 65536
              · rw [if_pos c23] at H
                have c23b0 : decide (a2 < 65536) = true := decide_eq_true c23
                clear c23
                replace H := Option.bind_eq_some_iff.mp H
                obtain ⟨t129, A240, H⟩ := H
                replace H : (some t129) = some r := H
                have A24 := Aside0.mk A240
                clear A240
                obtain rfl := Option.some.inj H
                go_enter Try.func4, Try.ntmps4
                go_wp2_with (first | ((with_reducible refine gate_callee (f := 10) rfl ?_); refine goesL_ (some 16) rfl rfl Try.func10 (by kernel_rfl) rfl #[.int .i32 a0, .int .i32 a1] rfl (by (try simp only [List.map_toArray, List.map_cons, List.map_nil]); first | done | rfl | (simp only [List.length_drop, List.length_take]; rfl)) ?_; (with_reducible refine (utf_Pair.calls a0 a1 t122 false _ A4.out).mono ?_); rintro e w' ⟨rfl, ⟨nd, rfl⟩⟩; refine ⟨_, rfl, ?_⟩) | ((with_reducible refine gate_callee (f := 9) rfl ?_); refine goesL_ (some 66) rfl rfl Try.func9 (by kernel_rfl) rfl #[] rfl (by (try simp only [List.map_toArray, List.map_cons, List.map_nil]); first | done | rfl | (simp only [List.length_drop, List.length_take]; rfl)) ?_; (with_reducible refine (larumlaw02_awake.calls k  t129 _ A24.out).mono ?_); rintro e w25 ⟨rfl, hb⟩; refine ⟨_, rfl, ?_⟩; have n0_ := Aside0.mk (below_step (by repeat (first | (with_reducible first | exact HB.out | apply below_alloc | apply pw_below_drewN | apply below_drew1) | exact HB.out)) hb); clear HB; have HB := n0_; clear n0_; (try clear hb); (try clear hb2); (try clear hk); (try clear hi)))
                go_ret
                exact ⟨by first | rfl | (simp [errW_none, errW_some] <;> rfl) | (simp [*, errW_none, errW_some] <;> rfl), by repeat (first | (with_reducible first | exact HB.out | apply below_alloc | apply pw_below_drewN | apply below_drew1) | exact HB.out)⟩
              · rw [if_neg c23] at H
                have c23b0 : decide (a2 < 65536) = false := decide_eq_false c23
                clear c23
                by_cases c26 : a2 > 1114111
                · rw [if_pos c26] at H
                  have c26b0 : decide (1114111 < a2) = true := decide_eq_true c26
                  clear c26
                  replace H := Option.bind_eq_some_iff.mp H
                  obtain ⟨t130, A270, H⟩ := H
                  replace H : (some t130) = some r := H
                  have A27 := Aside0.mk A270
                  clear A270
                  obtain rfl := Option.some.inj H
                  go_enter Try.func4, Try.ntmps4
                  go_wp2_with (first | ((with_reducible refine gate_callee (f := 10) rfl ?_); refine goesL_ (some 16) rfl rfl Try.func10 (by kernel_rfl) rfl #[.int .i32 a0, .int .i32 a1] rfl (by (try simp only [List.map_toArray, List.map_cons, List.map_nil]); first | done | rfl | (simp only [List.length_drop, List.length_take]; rfl)) ?_; (with_reducible refine (utf_Pair.calls a0 a1 t122 false _ A4.out).mono ?_); rintro e w' ⟨rfl, ⟨nd, rfl⟩⟩; refine ⟨_, rfl, ?_⟩) | ((with_reducible refine gate_callee (f := 9) rfl ?_); refine goesL_ (some 66) rfl rfl Try.func9 (by kernel_rfl) rfl #[] rfl (by (try simp only [List.map_toArray, List.map_cons, List.map_nil]); first | done | rfl | (simp only [List.length_drop, List.length_take]; rfl)) ?_; (with_reducible refine (larumlaw02_awake.calls k  t130 _ A27.out).mono ?_); rintro e w28 ⟨rfl, hb⟩; refine ⟨_, rfl, ?_⟩; have n0_ := Aside0.mk (below_step (by repeat (first | (with_reducible first | exact HB.out | apply below_alloc | apply pw_below_drewN | apply below_drew1) | exact HB.out)) hb); clear HB; have HB := n0_; clear n0_; (try clear hb); (try clear hb2); (try clear hk); (try clear hi)))
                  go_ret
                  exact ⟨by first | rfl | (simp [errW_none, errW_some] <;> rfl) | (simp [*, errW_none, errW_some] <;> rfl), by repeat (first | (with_reducible first | exact HB.out | apply below_alloc | apply pw_below_drewN | apply below_drew1) | exact HB.out)⟩
                · rw [if_neg c26] at H
                  have c26b0 : decide (1114111 < a2) = false := decide_eq_false c26
                  clear c26
                  replace H := Option.bind_eq_some_iff.mp H
                  obtain ⟨⟨t131, t132⟩, A290, H⟩ := H
                  replace H : (if t132 = true then (if t131 = a2 then ((larumlaw02_awake.f k).bind fun t133 => (some t133)) else (some false)) else (some false)) = some r := H
                  have A29 := Aside0.mk A290
                  clear A290
                  by_cases c30 : t132 = true
                  · subst c30
                    have H1 : (if t131 = a2 then ((larumlaw02_awake.f k).bind fun t133 => (some t133)) else (some false)) = some r := by rw [if_pos rfl] at H; exact H
                    clear H
                    have H := H1
                    clear H1
                    by_cases c31 : t131 = a2
                    · rw [if_pos c31] at H
                      have c31b0 : (t131 == a2) = true := beq_iff_eq.mpr c31
                      have c31b1 : (t131 != a2) = false := bne_eq_false_iff_eq.mpr c31
                      clear c31
                      replace H := Option.bind_eq_some_iff.mp H
                      obtain ⟨t133, A320, H⟩ := H
                      replace H : (some t133) = some r := H
                      have A32 := Aside0.mk A320
                      clear A320
                      obtain rfl := Option.some.inj H
                      go_enter Try.func4, Try.ntmps4
                      go_wp2_with (first | ((with_reducible refine gate_callee (f := 10) rfl ?_); refine goesL_ (some 16) rfl rfl Try.func10 (by kernel_rfl) rfl #[.int .i32 a0, .int .i32 a1] rfl (by (try simp only [List.map_toArray, List.map_cons, List.map_nil]); first | done | rfl | (simp only [List.length_drop, List.length_take]; rfl)) ?_; (with_reducible refine (utf_Pair.calls a0 a1 t122 false _ A4.out).mono ?_); rintro e w' ⟨rfl, ⟨nd, rfl⟩⟩; refine ⟨_, rfl, ?_⟩) | ((with_reducible refine gate_callee (f := 10) rfl ?_); refine goesL_ (some 76) rfl rfl Try.func10 (by kernel_rfl) rfl #[.int .i32 (wrap32 (55296 + (wrap32 (Int.tdiv (wrap32 (a2 - 65536)) 1024)))), .int .i32 (wrap32 (56320 + (Int.tmod (wrap32 (a2 - 65536)) 1024)))] rfl (by (try simp only [List.map_toArray, List.map_cons, List.map_nil]); first | done | rfl | (simp only [List.length_drop, List.length_take]; rfl)) ?_; (with_reducible refine (utf_Pair.calls (wrap32 (55296 + (wrap32 (Int.tdiv (wrap32 (a2 - 65536)) 1024)))) (wrap32 (56320 + (Int.tmod (wrap32 (a2 - 65536)) 1024))) t131 true _ A29.out).mono ?_); rintro e w' ⟨rfl, ⟨nd, rfl⟩⟩; refine ⟨_, rfl, ?_⟩) | (go_at_call 9; (with_reducible refine (larumlaw02_awake.calls k  t133 _ A32.out).mono ?_); rintro e w33 ⟨rfl, hb⟩; have n0_ := Aside0.mk (below_step (by repeat (first | (with_reducible first | exact HB.out | apply below_alloc | apply pw_below_drewN | apply below_drew1) | exact HB.out)) hb); clear HB; have HB := n0_; clear n0_; (try clear hb); (try clear hb2); (try clear hk); (try clear hi)))
                      go_ret
                      exact ⟨by first | rfl | (simp [errW_none, errW_some] <;> rfl) | (simp [*, errW_none, errW_some] <;> rfl), by repeat (first | (with_reducible first | exact HB.out | apply below_alloc | apply pw_below_drewN | apply below_drew1) | exact HB.out)⟩
                    · rw [if_neg c31] at H
                      have c31b0 : (t131 == a2) = false := beq_eq_false_iff_ne.mpr c31
                      have c31b1 : (t131 != a2) = true := bne_iff_ne.mpr c31
                      obtain rfl := Option.some.inj H
                      go_enter Try.func4, Try.ntmps4
                      go_wp2_with (first | ((with_reducible refine gate_callee (f := 10) rfl ?_); refine goesL_ (some 16) rfl rfl Try.func10 (by kernel_rfl) rfl #[.int .i32 a0, .int .i32 a1] rfl (by (try simp only [List.map_toArray, List.map_cons, List.map_nil]); first | done | rfl | (simp only [List.length_drop, List.length_take]; rfl)) ?_; (with_reducible refine (utf_Pair.calls a0 a1 t122 false _ A4.out).mono ?_); rintro e w' ⟨rfl, ⟨nd, rfl⟩⟩; refine ⟨_, rfl, ?_⟩) | ((with_reducible refine gate_callee (f := 10) rfl ?_); refine goesL_ (some 76) rfl rfl Try.func10 (by kernel_rfl) rfl #[.int .i32 (wrap32 (55296 + (wrap32 (Int.tdiv (wrap32 (a2 - 65536)) 1024)))), .int .i32 (wrap32 (56320 + (Int.tmod (wrap32 (a2 - 65536)) 1024)))] rfl (by (try simp only [List.map_toArray, List.map_cons, List.map_nil]); first | done | rfl | (simp only [List.length_drop, List.length_take]; rfl)) ?_; (with_reducible refine (utf_Pair.calls (wrap32 (55296 + (wrap32 (Int.tdiv (wrap32 (a2 - 65536)) 1024)))) (wrap32 (56320 + (Int.tmod (wrap32 (a2 - 65536)) 1024))) t131 true _ A29.out).mono ?_); rintro e w' ⟨rfl, ⟨nd, rfl⟩⟩; refine ⟨_, rfl, ?_⟩))
                      go_ret
                      exact ⟨by first | rfl | (simp [errW_none, errW_some] <;> rfl) | (simp [*, errW_none, errW_some] <;> rfl), by repeat (first | (with_reducible first | exact HB.out | apply below_alloc | apply pw_below_drewN | apply below_drew1) | exact HB.out)⟩
                  · replace c30 := Bool.eq_false_iff.mpr c30
                    subst c30
                    have H1 : (some false) = some r := by rw [if_neg (show ¬ (false = true) by decide)] at H; exact H
                    clear H
                    have H := H1
                    clear H1
                    obtain rfl := Option.some.inj H
                    go_enter Try.func4, Try.ntmps4
                    go_wp2_with (first | ((with_reducible refine gate_callee (f := 10) rfl ?_); refine goesL_ (some 16) rfl rfl Try.func10 (by kernel_rfl) rfl #[.int .i32 a0, .int .i32 a1] rfl (by (try simp only [List.map_toArray, List.map_cons, List.map_nil]); first | done | rfl | (simp only [List.length_drop, List.length_take]; rfl)) ?_; (with_reducible refine (utf_Pair.calls a0 a1 t122 false _ A4.out).mono ?_); rintro e w' ⟨rfl, ⟨nd, rfl⟩⟩; refine ⟨_, rfl, ?_⟩) | ((with_reducible refine gate_callee (f := 10) rfl ?_); refine goesL_ (some 76) rfl rfl Try.func10 (by kernel_rfl) rfl #[.int .i32 (wrap32 (55296 + (wrap32 (Int.tdiv (wrap32 (a2 - 65536)) 1024)))), .int .i32 (wrap32 (56320 + (Int.tmod (wrap32 (a2 - 65536)) 1024)))] rfl (by (try simp only [List.map_toArray, List.map_cons, List.map_nil]); first | done | rfl | (simp only [List.length_drop, List.length_take]; rfl)) ?_; (with_reducible refine (utf_Pair.calls (wrap32 (55296 + (wrap32 (Int.tdiv (wrap32 (a2 - 65536)) 1024)))) (wrap32 (56320 + (Int.tmod (wrap32 (a2 - 65536)) 1024))) t131 false _ A29.out).mono ?_); rintro e w' ⟨rfl, ⟨nd, rfl⟩⟩; refine ⟨_, rfl, ?_⟩))
                    go_ret
                    exact ⟨by first | rfl | (simp [errW_none, errW_some] <;> rfl) | (simp [*, errW_none, errW_some] <;> rfl), by repeat (first | (with_reducible first | exact HB.out | apply below_alloc | apply pw_below_drewN | apply below_drew1) | exact HB.out)⟩
            · rw [if_neg c22] at H
              have c22b0 : (t122 == 0) = false := beq_eq_false_iff_ne.mpr c22
              have c22b1 : (t122 != 0) = true := bne_iff_ne.mpr c22
              obtain rfl := Option.some.inj H
              go_enter Try.func4, Try.ntmps4
              go_wp2_with (first | ((with_reducible refine gate_callee (f := 10) rfl ?_); refine goesL_ (some 16) rfl rfl Try.func10 (by kernel_rfl) rfl #[.int .i32 a0, .int .i32 a1] rfl (by (try simp only [List.map_toArray, List.map_cons, List.map_nil]); first | done | rfl | (simp only [List.length_drop, List.length_take]; rfl)) ?_; (with_reducible refine (utf_Pair.calls a0 a1 t122 false _ A4.out).mono ?_); rintro e w' ⟨rfl, ⟨nd, rfl⟩⟩; refine ⟨_, rfl, ?_⟩))
              go_ret
              exact ⟨by first | rfl | (simp [errW_none, errW_some] <;> rfl) | (simp [*, errW_none, errW_some] <;> rfl), by repeat (first | (with_reducible first | exact HB.out | apply below_alloc | apply pw_below_drewN | apply below_drew1) | exact HB.out)⟩
      · rw [if_neg c7] at H
        have c7b0 : decide (a0 ≤ 56319) = false := decide_eq_false c7
        clear c7
        by_cases c34 : (t123 != false) = true
        · rw [if_pos c34] at H
          have c34b0 : (t123 != false) = true := c34
          (try (have c34b1 : decide (t123 = false) = false := by simpa using c34))
          (try (have c34b2 : (t123 == false) = false := by simpa using c34))
          (try (have c34b3 : ¬ (t123 = false) := by simpa using c34))
          clear c34
          obtain rfl := Option.some.inj H
          go_enter Try.func4, Try.ntmps4
          go_wp2_with (first | ((with_reducible refine gate_callee (f := 10) rfl ?_); refine goesL_ (some 16) rfl rfl Try.func10 (by kernel_rfl) rfl #[.int .i32 a0, .int .i32 a1] rfl (by (try simp only [List.map_toArray, List.map_cons, List.map_nil]); first | done | rfl | (simp only [List.length_drop, List.length_take]; rfl)) ?_; (with_reducible refine (utf_Pair.calls a0 a1 t122 t123 _ A4.out).mono ?_); rintro e w' ⟨rfl, ⟨nd, rfl⟩⟩; refine ⟨_, rfl, ?_⟩))
          go_ret
          exact ⟨by first | rfl | (simp [errW_none, errW_some] <;> rfl) | (simp [*, errW_none, errW_some] <;> rfl), by repeat (first | (with_reducible first | exact HB.out | apply below_alloc | apply pw_below_drewN | apply below_drew1) | exact HB.out)⟩
        · rw [if_neg c34] at H
          have c34b0 : (t123 != false) = false := by simpa using c34
          (try (have c34b1 : decide (t123 = false) = true := by simpa using c34))
          (try (have c34b2 : (t123 == false) = true := by simpa using c34))
          clear c34
          by_cases c35 : t123 = true
          · subst c35
            have H1 : (if (wrap64 (t122)) = (wrap64 ((wrap64 ((wrap64 (65536 + (wrap64 (1024 * (wrap64 ((wrap64 (a0)) - 55296)))))) + (wrap64 (a1)))) - 56320)) then (if a2 < 65536 then ((larumlaw02_awake.f k).bind fun t134 => (some t134)) else (if a2 > 1114111 then ((larumlaw02_awake.f k).bind fun t135 => (some t135)) else ((utf_Pair.f (wrap32 (55296 + (wrap32 (Int.tdiv (wrap32 (a2 - 65536)) 1024)))) (wrap32 (56320 + (Int.tmod (wrap32 (a2 - 65536)) 1024)))).bind fun bt136 => (if bt136.2 = true then (if bt136.1 = a2 then ((larumlaw02_awake.f k).bind fun t138 => (some t138)) else (some false)) else (some false))))) else (some false)) = some r := by rw [if_pos rfl] at H; exact H
            clear H
            have H := H1
            clear H1
            by_cases c36 : (wrap64 (t122)) = (wrap64 ((wrap64 ((wrap64 (65536 + (wrap64 (1024 * (wrap64 ((wrap64 (a0)) - 55296)))))) + (wrap64 (a1)))) - 56320))
            · rw [if_pos c36] at H
              have c36b0 : ((wrap64 (t122)) == (wrap64 ((wrap64 ((wrap64 (65536 + (wrap64 (1024 * (wrap64 ((wrap64 (a0)) - 55296)))))) + (wrap64 (a1)))) - 56320))) = true := beq_iff_eq.mpr c36
              have c36b1 : ((wrap64 (t122)) != (wrap64 ((wrap64 ((wrap64 (65536 + (wrap64 (1024 * (wrap64 ((wrap64 (a0)) - 55296)))))) + (wrap64 (a1)))) - 56320))) = false := bne_eq_false_iff_eq.mpr c36
              clear c36
              by_cases c37 : a2 < 65536
              · rw [if_pos c37] at H
                have c37b0 : decide (a2 < 65536) = true := decide_eq_true c37
                clear c37
                replace H := Option.bind_eq_some_iff.mp H
                obtain ⟨t134, A380, H⟩ := H
                replace H : (some t134) = some r := H
                have A38 := Aside0.mk A380
                clear A380
                obtain rfl := Option.some.inj H
                go_enter Try.func4, Try.ntmps4
                go_wp2_with (first | ((with_reducible refine gate_callee (f := 10) rfl ?_); refine goesL_ (some 16) rfl rfl Try.func10 (by kernel_rfl) rfl #[.int .i32 a0, .int .i32 a1] rfl (by (try simp only [List.map_toArray, List.map_cons, List.map_nil]); first | done | rfl | (simp only [List.length_drop, List.length_take]; rfl)) ?_; (with_reducible refine (utf_Pair.calls a0 a1 t122 true _ A4.out).mono ?_); rintro e w' ⟨rfl, ⟨nd, rfl⟩⟩; refine ⟨_, rfl, ?_⟩) | ((with_reducible refine gate_callee (f := 9) rfl ?_); refine goesL_ (some 66) rfl rfl Try.func9 (by kernel_rfl) rfl #[] rfl (by (try simp only [List.map_toArray, List.map_cons, List.map_nil]); first | done | rfl | (simp only [List.length_drop, List.length_take]; rfl)) ?_; (with_reducible refine (larumlaw02_awake.calls k  t134 _ A38.out).mono ?_); rintro e w39 ⟨rfl, hb⟩; refine ⟨_, rfl, ?_⟩; have n0_ := Aside0.mk (below_step (by repeat (first | (with_reducible first | exact HB.out | apply below_alloc | apply pw_below_drewN | apply below_drew1) | exact HB.out)) hb); clear HB; have HB := n0_; clear n0_; (try clear hb); (try clear hb2); (try clear hk); (try clear hi)))
                go_ret
                exact ⟨by first | rfl | (simp [errW_none, errW_some] <;> rfl) | (simp [*, errW_none, errW_some] <;> rfl), by repeat (first | (with_reducible first | exact HB.out | apply below_alloc | apply pw_below_drewN | apply below_drew1) | exact HB.out)⟩
              · rw [if_neg c37] at H
                have c37b0 : decide (a2 < 65536) = false := decide_eq_false c37
                clear c37
                by_cases c40 : a2 > 1114111
                · rw [if_pos c40] at H
                  have c40b0 : decide (1114111 < a2) = true := decide_eq_true c40
                  clear c40
                  replace H := Option.bind_eq_some_iff.mp H
                  obtain ⟨t135, A410, H⟩ := H
                  replace H : (some t135) = some r := H
                  have A41 := Aside0.mk A410
                  clear A410
                  obtain rfl := Option.some.inj H
                  go_enter Try.func4, Try.ntmps4
                  go_wp2_with (first | ((with_reducible refine gate_callee (f := 10) rfl ?_); refine goesL_ (some 16) rfl rfl Try.func10 (by kernel_rfl) rfl #[.int .i32 a0, .int .i32 a1] rfl (by (try simp only [List.map_toArray, List.map_cons, List.map_nil]); first | done | rfl | (simp only [List.length_drop, List.length_take]; rfl)) ?_; (with_reducible refine (utf_Pair.calls a0 a1 t122 true _ A4.out).mono ?_); rintro e w' ⟨rfl, ⟨nd, rfl⟩⟩; refine ⟨_, rfl, ?_⟩) | ((with_reducible refine gate_callee (f := 9) rfl ?_); refine goesL_ (some 66) rfl rfl Try.func9 (by kernel_rfl) rfl #[] rfl (by (try simp only [List.map_toArray, List.map_cons, List.map_nil]); first | done | rfl | (simp only [List.length_drop, List.length_take]; rfl)) ?_; (with_reducible refine (larumlaw02_awake.calls k  t135 _ A41.out).mono ?_); rintro e w42 ⟨rfl, hb⟩; refine ⟨_, rfl, ?_⟩; have n0_ := Aside0.mk (below_step (by repeat (first | (with_reducible first | exact HB.out | apply below_alloc | apply pw_below_drewN | apply below_drew1) | exact HB.out)) hb); clear HB; have HB := n0_; clear n0_; (try clear hb); (try clear hb2); (try clear hk); (try clear hi)))
                  go_ret
                  exact ⟨by first | rfl | (simp [errW_none, errW_some] <;> rfl) | (simp [*, errW_none, errW_some] <;> rfl), by repeat (first | (with_reducible first | exact HB.out | apply below_alloc | apply pw_below_drewN | apply below_drew1) | exact HB.out)⟩
                · rw [if_neg c40] at H
                  have c40b0 : decide (1114111 < a2) = false := decide_eq_false c40
                  clear c40
                  replace H := Option.bind_eq_some_iff.mp H
                  obtain ⟨⟨t136, t137⟩, A430, H⟩ := H
                  replace H : (if t137 = true then (if t136 = a2 then ((larumlaw02_awake.f k).bind fun t138 => (some t138)) else (some false)) else (some false)) = some r := H
                  have A43 := Aside0.mk A430
                  clear A430
                  by_cases c44 : t137 = true
                  · subst c44
                    have H1 : (if t136 = a2 then ((larumlaw02_awake.f k).bind fun t138 => (some t138)) else (some false)) = some r := by rw [if_pos rfl] at H; exact H
                    clear H
                    have H := H1
                    clear H1
                    by_cases c45 : t136 = a2
                    · rw [if_pos c45] at H
                      have c45b0 : (t136 == a2) = true := beq_iff_eq.mpr c45
                      have c45b1 : (t136 != a2) = false := bne_eq_false_iff_eq.mpr c45
                      clear c45
                      replace H := Option.bind_eq_some_iff.mp H
                      obtain ⟨t138, A460, H⟩ := H
                      replace H : (some t138) = some r := H
                      have A46 := Aside0.mk A460
                      clear A460
                      obtain rfl := Option.some.inj H
                      go_enter Try.func4, Try.ntmps4
                      go_wp2_with (first | ((with_reducible refine gate_callee (f := 10) rfl ?_); refine goesL_ (some 16) rfl rfl Try.func10 (by kernel_rfl) rfl #[.int .i32 a0, .int .i32 a1] rfl (by (try simp only [List.map_toArray, List.map_cons, List.map_nil]); first | done | rfl | (simp only [List.length_drop, List.length_take]; rfl)) ?_; (with_reducible refine (utf_Pair.calls a0 a1 t122 true _ A4.out).mono ?_); rintro e w' ⟨rfl, ⟨nd, rfl⟩⟩; refine ⟨_, rfl, ?_⟩) | ((with_reducible refine gate_callee (f := 10) rfl ?_); refine goesL_ (some 76) rfl rfl Try.func10 (by kernel_rfl) rfl #[.int .i32 (wrap32 (55296 + (wrap32 (Int.tdiv (wrap32 (a2 - 65536)) 1024)))), .int .i32 (wrap32 (56320 + (Int.tmod (wrap32 (a2 - 65536)) 1024)))] rfl (by (try simp only [List.map_toArray, List.map_cons, List.map_nil]); first | done | rfl | (simp only [List.length_drop, List.length_take]; rfl)) ?_; (with_reducible refine (utf_Pair.calls (wrap32 (55296 + (wrap32 (Int.tdiv (wrap32 (a2 - 65536)) 1024)))) (wrap32 (56320 + (Int.tmod (wrap32 (a2 - 65536)) 1024))) t136 true _ A43.out).mono ?_); rintro e w' ⟨rfl, ⟨nd, rfl⟩⟩; refine ⟨_, rfl, ?_⟩) | (go_at_call 9; (with_reducible refine (larumlaw02_awake.calls k  t138 _ A46.out).mono ?_); rintro e w47 ⟨rfl, hb⟩; have n0_ := Aside0.mk (below_step (by repeat (first | (with_reducible first | exact HB.out | apply below_alloc | apply pw_below_drewN | apply below_drew1) | exact HB.out)) hb); clear HB; have HB := n0_; clear n0_; (try clear hb); (try clear hb2); (try clear hk); (try clear hi)))
                      go_ret
                      exact ⟨by first | rfl | (simp [errW_none, errW_some] <;> rfl) | (simp [*, errW_none, errW_some] <;> rfl), by repeat (first | (with_reducible first | exact HB.out | apply below_alloc | apply pw_below_drewN | apply below_drew1) | exact HB.out)⟩
                    · rw [if_neg c45] at H
                      have c45b0 : (t136 == a2) = false := beq_eq_false_iff_ne.mpr c45
                      have c45b1 : (t136 != a2) = true := bne_iff_ne.mpr c45
                      obtain rfl := Option.some.inj H
                      go_enter Try.func4, Try.ntmps4
                      go_wp2_with (first | ((with_reducible refine gate_callee (f := 10) rfl ?_); refine goesL_ (some 16) rfl rfl Try.func10 (by kernel_rfl) rfl #[.int .i32 a0, .int .i32 a1] rfl (by (try simp only [List.map_toArray, List.map_cons, List.map_nil]); first | done | rfl | (simp only [List.length_drop, List.length_take]; rfl)) ?_; (with_reducible refine (utf_Pair.calls a0 a1 t122 true _ A4.out).mono ?_); rintro e w' ⟨rfl, ⟨nd, rfl⟩⟩; refine ⟨_, rfl, ?_⟩) | ((with_reducible refine gate_callee (f := 10) rfl ?_); refine goesL_ (some 76) rfl rfl Try.func10 (by kernel_rfl) rfl #[.int .i32 (wrap32 (55296 + (wrap32 (Int.tdiv (wrap32 (a2 - 65536)) 1024)))), .int .i32 (wrap32 (56320 + (Int.tmod (wrap32 (a2 - 65536)) 1024)))] rfl (by (try simp only [List.map_toArray, List.map_cons, List.map_nil]); first | done | rfl | (simp only [List.length_drop, List.length_take]; rfl)) ?_; (with_reducible refine (utf_Pair.calls (wrap32 (55296 + (wrap32 (Int.tdiv (wrap32 (a2 - 65536)) 1024)))) (wrap32 (56320 + (Int.tmod (wrap32 (a2 - 65536)) 1024))) t136 true _ A43.out).mono ?_); rintro e w' ⟨rfl, ⟨nd, rfl⟩⟩; refine ⟨_, rfl, ?_⟩))
                      go_ret
                      exact ⟨by first | rfl | (simp [errW_none, errW_some] <;> rfl) | (simp [*, errW_none, errW_some] <;> rfl), by repeat (first | (with_reducible first | exact HB.out | apply below_alloc | apply pw_below_drewN | apply below_drew1) | exact HB.out)⟩
                  · replace c44 := Bool.eq_false_iff.mpr c44
                    subst c44
                    have H1 : (some false) = some r := by rw [if_neg (show ¬ (false = true) by decide)] at H; exact H
                    clear H
                    have H := H1
                    clear H1
                    obtain rfl := Option.some.inj H
                    go_enter Try.func4, Try.ntmps4
                    go_wp2_with (first | ((with_reducible refine gate_callee (f := 10) rfl ?_); refine goesL_ (some 16) rfl rfl Try.func10 (by kernel_rfl) rfl #[.int .i32 a0, .int .i32 a1] rfl (by (try simp only [List.map_toArray, List.map_cons, List.map_nil]); first | done | rfl | (simp only [List.length_drop, List.length_take]; rfl)) ?_; (with_reducible refine (utf_Pair.calls a0 a1 t122 true _ A4.out).mono ?_); rintro e w' ⟨rfl, ⟨nd, rfl⟩⟩; refine ⟨_, rfl, ?_⟩) | ((with_reducible refine gate_callee (f := 10) rfl ?_); refine goesL_ (some 76) rfl rfl Try.func10 (by kernel_rfl) rfl #[.int .i32 (wrap32 (55296 + (wrap32 (Int.tdiv (wrap32 (a2 - 65536)) 1024)))), .int .i32 (wrap32 (56320 + (Int.tmod (wrap32 (a2 - 65536)) 1024)))] rfl (by (try simp only [List.map_toArray, List.map_cons, List.map_nil]); first | done | rfl | (simp only [List.length_drop, List.length_take]; rfl)) ?_; (with_reducible refine (utf_Pair.calls (wrap32 (55296 + (wrap32 (Int.tdiv (wrap32 (a2 - 65536)) 1024)))) (wrap32 (56320 + (Int.tmod (wrap32 (a2 - 65536)) 1024))) t136 false _ A43.out).mono ?_); rintro e w' ⟨rfl, ⟨nd, rfl⟩⟩; refine ⟨_, rfl, ?_⟩))
                    go_ret
                    exact ⟨by first | rfl | (simp [errW_none, errW_some] <;> rfl) | (simp [*, errW_none, errW_some] <;> rfl), by repeat (first | (with_reducible first | exact HB.out | apply below_alloc | apply pw_below_drewN | apply below_drew1) | exact HB.out)⟩
            · rw [if_neg c36] at H
              have c36b0 : ((wrap64 (t122)) == (wrap64 ((wrap64 ((wrap64 (65536 + (wrap64 (1024 * (wrap64 ((wrap64 (a0)) - 55296)))))) + (wrap64 (a1)))) - 56320))) = false := beq_eq_false_iff_ne.mpr c36
              have c36b1 : ((wrap64 (t122)) != (wrap64 ((wrap64 ((wrap64 (65536 + (wrap64 (1024 * (wrap64 ((wrap64 (a0)) - 55296)))))) + (wrap64 (a1)))) - 56320))) = true := bne_iff_ne.mpr c36
              obtain rfl := Option.some.inj H
              go_enter Try.func4, Try.ntmps4
              go_wp2_with (first | ((with_reducible refine gate_callee (f := 10) rfl ?_); refine goesL_ (some 16) rfl rfl Try.func10 (by kernel_rfl) rfl #[.int .i32 a0, .int .i32 a1] rfl (by (try simp only [List.map_toArray, List.map_cons, List.map_nil]); first | done | rfl | (simp only [List.length_drop, List.length_take]; rfl)) ?_; (with_reducible refine (utf_Pair.calls a0 a1 t122 true _ A4.out).mono ?_); rintro e w' ⟨rfl, ⟨nd, rfl⟩⟩; refine ⟨_, rfl, ?_⟩))
              go_ret
              exact ⟨by first | rfl | (simp [errW_none, errW_some] <;> rfl) | (simp [*, errW_none, errW_some] <;> rfl), by repeat (first | (with_reducible first | exact HB.out | apply below_alloc | apply pw_below_drewN | apply below_drew1) | exact HB.out)⟩
          · replace c35 := Bool.eq_false_iff.mpr c35
            subst c35
            have H1 : (if t122 = 0 then (if a2 < 65536 then ((larumlaw02_awake.f k).bind fun t139 => (some t139)) else (if a2 > 1114111 then ((larumlaw02_awake.f k).bind fun t140 => (some t140)) else ((utf_Pair.f (wrap32 (55296 + (wrap32 (Int.tdiv (wrap32 (a2 - 65536)) 1024)))) (wrap32 (56320 + (Int.tmod (wrap32 (a2 - 65536)) 1024)))).bind fun bt141 => (if bt141.2 = true then (if bt141.1 = a2 then ((larumlaw02_awake.f k).bind fun t143 => (some t143)) else (some false)) else (some false))))) else (some false)) = some r := by rw [if_neg (show ¬ (false = true) by decide)] at H; exact H
            clear H
            have H := H1
            clear H1
            by_cases c48 : t122 = 0
            · rw [if_pos c48] at H
              have c48b0 : (t122 == 0) = true := beq_iff_eq.mpr c48
              have c48b1 : (t122 != 0) = false := bne_eq_false_iff_eq.mpr c48
              clear c48
              by_cases c49 : a2 < 65536
              · rw [if_pos c49] at H
                have c49b0 : decide (a2 < 65536) = true := decide_eq_true c49
                clear c49
                replace H := Option.bind_eq_some_iff.mp H
                obtain ⟨t139, A500, H⟩ := H
                replace H : (some t139) = some r := H
                have A50 := Aside0.mk A500
                clear A500
                obtain rfl := Option.some.inj H
                go_enter Try.func4, Try.ntmps4
                go_wp2_with (first | ((with_reducible refine gate_callee (f := 10) rfl ?_); refine goesL_ (some 16) rfl rfl Try.func10 (by kernel_rfl) rfl #[.int .i32 a0, .int .i32 a1] rfl (by (try simp only [List.map_toArray, List.map_cons, List.map_nil]); first | done | rfl | (simp only [List.length_drop, List.length_take]; rfl)) ?_; (with_reducible refine (utf_Pair.calls a0 a1 t122 false _ A4.out).mono ?_); rintro e w' ⟨rfl, ⟨nd, rfl⟩⟩; refine ⟨_, rfl, ?_⟩) | ((with_reducible refine gate_callee (f := 9) rfl ?_); refine goesL_ (some 66) rfl rfl Try.func9 (by kernel_rfl) rfl #[] rfl (by (try simp only [List.map_toArray, List.map_cons, List.map_nil]); first | done | rfl | (simp only [List.length_drop, List.length_take]; rfl)) ?_; (with_reducible refine (larumlaw02_awake.calls k  t139 _ A50.out).mono ?_); rintro e w51 ⟨rfl, hb⟩; refine ⟨_, rfl, ?_⟩; have n0_ := Aside0.mk (below_step (by repeat (first | (with_reducible first | exact HB.out | apply below_alloc | apply pw_below_drewN | apply below_drew1) | exact HB.out)) hb); clear HB; have HB := n0_; clear n0_; (try clear hb); (try clear hb2); (try clear hk); (try clear hi)))
                go_ret
                exact ⟨by first | rfl | (simp [errW_none, errW_some] <;> rfl) | (simp [*, errW_none, errW_some] <;> rfl), by repeat (first | (with_reducible first | exact HB.out | apply below_alloc | apply pw_below_drewN | apply below_drew1) | exact HB.out)⟩
              · rw [if_neg c49] at H
                have c49b0 : decide (a2 < 65536) = false := decide_eq_false c49
                clear c49
                by_cases c52 : a2 > 1114111
                · rw [if_pos c52] at H
                  have c52b0 : decide (1114111 < a2) = true := decide_eq_true c52
                  clear c52
                  replace H := Option.bind_eq_some_iff.mp H
                  obtain ⟨t140, A530, H⟩ := H
                  replace H : (some t140) = some r := H
                  have A53 := Aside0.mk A530
                  clear A530
                  obtain rfl := Option.some.inj H
                  go_enter Try.func4, Try.ntmps4
                  go_wp2_with (first | ((with_reducible refine gate_callee (f := 10) rfl ?_); refine goesL_ (some 16) rfl rfl Try.func10 (by kernel_rfl) rfl #[.int .i32 a0, .int .i32 a1] rfl (by (try simp only [List.map_toArray, List.map_cons, List.map_nil]); first | done | rfl | (simp only [List.length_drop, List.length_take]; rfl)) ?_; (with_reducible refine (utf_Pair.calls a0 a1 t122 false _ A4.out).mono ?_); rintro e w' ⟨rfl, ⟨nd, rfl⟩⟩; refine ⟨_, rfl, ?_⟩) | ((with_reducible refine gate_callee (f := 9) rfl ?_); refine goesL_ (some 66) rfl rfl Try.func9 (by kernel_rfl) rfl #[] rfl (by (try simp only [List.map_toArray, List.map_cons, List.map_nil]); first | done | rfl | (simp only [List.length_drop, List.length_take]; rfl)) ?_; (with_reducible refine (larumlaw02_awake.calls k  t140 _ A53.out).mono ?_); rintro e w54 ⟨rfl, hb⟩; refine ⟨_, rfl, ?_⟩; have n0_ := Aside0.mk (below_step (by repeat (first | (with_reducible first | exact HB.out | apply below_alloc | apply pw_below_drewN | apply below_drew1) | exact HB.out)) hb); clear HB; have HB := n0_; clear n0_; (try clear hb); (try clear hb2); (try clear hk); (try clear hi)))
                  go_ret
                  exact ⟨by first | rfl | (simp [errW_none, errW_some] <;> rfl) | (simp [*, errW_none, errW_some] <;> rfl), by repeat (first | (with_reducible first | exact HB.out | apply below_alloc | apply pw_below_drewN | apply below_drew1) | exact HB.out)⟩
                · rw [if_neg c52] at H
                  have c52b0 : decide (1114111 < a2) = false := decide_eq_false c52
                  clear c52
                  replace H := Option.bind_eq_some_iff.mp H
                  obtain ⟨⟨t141, t142⟩, A550, H⟩ := H
                  replace H : (if t142 = true then (if t141 = a2 then ((larumlaw02_awake.f k).bind fun t143 => (some t143)) else (some false)) else (some false)) = some r := H
                  have A55 := Aside0.mk A550
                  clear A550
                  by_cases c56 : t142 = true
                  · subst c56
                    have H1 : (if t141 = a2 then ((larumlaw02_awake.f k).bind fun t143 => (some t143)) else (some false)) = some r := by rw [if_pos rfl] at H; exact H
                    clear H
                    have H := H1
                    clear H1
                    by_cases c57 : t141 = a2
                    · rw [if_pos c57] at H
                      have c57b0 : (t141 == a2) = true := beq_iff_eq.mpr c57
                      have c57b1 : (t141 != a2) = false := bne_eq_false_iff_eq.mpr c57
                      clear c57
                      replace H := Option.bind_eq_some_iff.mp H
                      obtain ⟨t143, A580, H⟩ := H
                      replace H : (some t143) = some r := H
                      have A58 := Aside0.mk A580
                      clear A580
                      obtain rfl := Option.some.inj H
                      go_enter Try.func4, Try.ntmps4
                      go_wp2_with (first | ((with_reducible refine gate_callee (f := 10) rfl ?_); refine goesL_ (some 16) rfl rfl Try.func10 (by kernel_rfl) rfl #[.int .i32 a0, .int .i32 a1] rfl (by (try simp only [List.map_toArray, List.map_cons, List.map_nil]); first | done | rfl | (simp only [List.length_drop, List.length_take]; rfl)) ?_; (with_reducible refine (utf_Pair.calls a0 a1 t122 false _ A4.out).mono ?_); rintro e w' ⟨rfl, ⟨nd, rfl⟩⟩; refine ⟨_, rfl, ?_⟩) | ((with_reducible refine gate_callee (f := 10) rfl ?_); refine goesL_ (some 76) rfl rfl Try.func10 (by kernel_rfl) rfl #[.int .i32 (wrap32 (55296 + (wrap32 (Int.tdiv (wrap32 (a2 - 65536)) 1024)))), .int .i32 (wrap32 (56320 + (Int.tmod (wrap32 (a2 - 65536)) 1024)))] rfl (by (try simp only [List.map_toArray, List.map_cons, List.map_nil]); first | done | rfl | (simp only [List.length_drop, List.length_take]; rfl)) ?_; (with_reducible refine (utf_Pair.calls (wrap32 (55296 + (wrap32 (Int.tdiv (wrap32 (a2 - 65536)) 1024)))) (wrap32 (56320 + (Int.tmod (wrap32 (a2 - 65536)) 1024))) t141 true _ A55.out).mono ?_); rintro e w' ⟨rfl, ⟨nd, rfl⟩⟩; refine ⟨_, rfl, ?_⟩) | (go_at_call 9; (with_reducible refine (larumlaw02_awake.calls k  t143 _ A58.out).mono ?_); rintro e w59 ⟨rfl, hb⟩; have n0_ := Aside0.mk (below_step (by repeat (first | (with_reducible first | exact HB.out | apply below_alloc | apply pw_below_drewN | apply below_drew1) | exact HB.out)) hb); clear HB; have HB := n0_; clear n0_; (try clear hb); (try clear hb2); (try clear hk); (try clear hi)))
                      go_ret
                      exact ⟨by first | rfl | (simp [errW_none, errW_some] <;> rfl) | (simp [*, errW_none, errW_some] <;> rfl), by repeat (first | (with_reducible first | exact HB.out | apply below_alloc | apply pw_below_drewN | apply below_drew1) | exact HB.out)⟩
                    · rw [if_neg c57] at H
                      have c57b0 : (t141 == a2) = false := beq_eq_false_iff_ne.mpr c57
                      have c57b1 : (t141 != a2) = true := bne_iff_ne.mpr c57
                      obtain rfl := Option.some.inj H
                      go_enter Try.func4, Try.ntmps4
                      go_wp2_with (first | ((with_reducible refine gate_callee (f := 10) rfl ?_); refine goesL_ (some 16) rfl rfl Try.func10 (by kernel_rfl) rfl #[.int .i32 a0, .int .i32 a1] rfl (by (try simp only [List.map_toArray, List.map_cons, List.map_nil]); first | done | rfl | (simp only [List.length_drop, List.length_take]; rfl)) ?_; (with_reducible refine (utf_Pair.calls a0 a1 t122 false _ A4.out).mono ?_); rintro e w' ⟨rfl, ⟨nd, rfl⟩⟩; refine ⟨_, rfl, ?_⟩) | ((with_reducible refine gate_callee (f := 10) rfl ?_); refine goesL_ (some 76) rfl rfl Try.func10 (by kernel_rfl) rfl #[.int .i32 (wrap32 (55296 + (wrap32 (Int.tdiv (wrap32 (a2 - 65536)) 1024)))), .int .i32 (wrap32 (56320 + (Int.tmod (wrap32 (a2 - 65536)) 1024)))] rfl (by (try simp only [List.map_toArray, List.map_cons, List.map_nil]); first | done | rfl | (simp only [List.length_drop, List.length_take]; rfl)) ?_; (with_reducible refine (utf_Pair.calls (wrap32 (55296 + (wrap32 (Int.tdiv (wrap32 (a2 - 65536)) 1024)))) (wrap32 (56320 + (Int.tmod (wrap32 (a2 - 65536)) 1024))) t141 true _ A55.out).mono ?_); rintro e w' ⟨rfl, ⟨nd, rfl⟩⟩; refine ⟨_, rfl, ?_⟩))
                      go_ret
                      exact ⟨by first | rfl | (simp [errW_none, errW_some] <;> rfl) | (simp [*, errW_none, errW_some] <;> rfl), by repeat (first | (with_reducible first | exact HB.out | apply below_alloc | apply pw_below_drewN | apply below_drew1) | exact HB.out)⟩
                  · replace c56 := Bool.eq_false_iff.mpr c56
                    subst c56
                    have H1 : (some false) = some r := by rw [if_neg (show ¬ (false = true) by decide)] at H; exact H
                    clear H
                    have H := H1
                    clear H1
                    obtain rfl := Option.some.inj H
                    go_enter Try.func4, Try.ntmps4
                    go_wp2_with (first | ((with_reducible refine gate_callee (f := 10) rfl ?_); refine goesL_ (some 16) rfl rfl Try.func10 (by kernel_rfl) rfl #[.int .i32 a0, .int .i32 a1] rfl (by (try simp only [List.map_toArray, List.map_cons, List.map_nil]); first | done | rfl | (simp only [List.length_drop, List.length_take]; rfl)) ?_; (with_reducible refine (utf_Pair.calls a0 a1 t122 false _ A4.out).mono ?_); rintro e w' ⟨rfl, ⟨nd, rfl⟩⟩; refine ⟨_, rfl, ?_⟩) | ((with_reducible refine gate_callee (f := 10) rfl ?_); refine goesL_ (some 76) rfl rfl Try.func10 (by kernel_rfl) rfl #[.int .i32 (wrap32 (55296 + (wrap32 (Int.tdiv (wrap32 (a2 - 65536)) 1024)))), .int .i32 (wrap32 (56320 + (Int.tmod (wrap32 (a2 - 65536)) 1024)))] rfl (by (try simp only [List.map_toArray, List.map_cons, List.map_nil]); first | done | rfl | (simp only [List.length_drop, List.length_take]; rfl)) ?_; (with_reducible refine (utf_Pair.calls (wrap32 (55296 + (wrap32 (Int.tdiv (wrap32 (a2 - 65536)) 1024)))) (wrap32 (56320 + (Int.tmod (wrap32 (a2 - 65536)) 1024))) t141 false _ A55.out).mono ?_); rintro e w' ⟨rfl, ⟨nd, rfl⟩⟩; refine ⟨_, rfl, ?_⟩))
                    go_ret
                    exact ⟨by first | rfl | (simp [errW_none, errW_some] <;> rfl) | (simp [*, errW_none, errW_some] <;> rfl), by repeat (first | (with_reducible first | exact HB.out | apply below_alloc | apply pw_below_drewN | apply below_drew1) | exact HB.out)⟩
            · rw [if_neg c48] at H
              have c48b0 : (t122 == 0) = false := beq_eq_false_iff_ne.mpr c48
              have c48b1 : (t122 != 0) = true := bne_iff_ne.mpr c48
              obtain rfl := Option.some.inj H
              go_enter Try.func4, Try.ntmps4
              go_wp2_with (first | ((with_reducible refine gate_callee (f := 10) rfl ?_); refine goesL_ (some 16) rfl rfl Try.func10 (by kernel_rfl) rfl #[.int .i32 a0, .int .i32 a1] rfl (by (try simp only [List.map_toArray, List.map_cons, List.map_nil]); first | done | rfl | (simp only [List.length_drop, List.length_take]; rfl)) ?_; (with_reducible refine (utf_Pair.calls a0 a1 t122 false _ A4.out).mono ?_); rintro e w' ⟨rfl, ⟨nd, rfl⟩⟩; refine ⟨_, rfl, ?_⟩))
              go_ret
              exact ⟨by first | rfl | (simp [errW_none, errW_some] <;> rfl) | (simp [*, errW_none, errW_some] <;> rfl), by repeat (first | (with_reducible first | exact HB.out | apply below_alloc | apply pw_below_drewN | apply below_drew1) | exact HB.out)⟩
    · rw [if_neg c6] at H
      have c6b0 : decide (56320 ≤ a1) = false := decide_eq_false c6
      clear c6
      by_cases c60 : a0 ≤ 56319
      · rw [if_pos c60] at H
        have c60b0 : decide (a0 ≤ 56319) = true := decide_eq_true c60
        clear c60
        by_cases c61 : (t123 != false) = true
        · rw [if_pos c61] at H
          have c61b0 : (t123 != false) = true := c61
          (try (have c61b1 : decide (t123 = false) = false := by simpa using c61))
          (try (have c61b2 : (t123 == false) = false := by simpa using c61))
          (try (have c61b3 : ¬ (t123 = false) := by simpa using c61))
          clear c61
          obtain rfl := Option.some.inj H
          go_enter Try.func4, Try.ntmps4
          go_wp2_with (first | ((with_reducible refine gate_callee (f := 10) rfl ?_); refine goesL_ (some 16) rfl rfl Try.func10 (by kernel_rfl) rfl #[.int .i32 a0, .int .i32 a1] rfl (by (try simp only [List.map_toArray, List.map_cons, List.map_nil]); first | done | rfl | (simp only [List.length_drop, List.length_take]; rfl)) ?_; (with_reducible refine (utf_Pair.calls a0 a1 t122 t123 _ A4.out).mono ?_); rintro e w' ⟨rfl, ⟨nd, rfl⟩⟩; refine ⟨_, rfl, ?_⟩))
          go_ret
          exact ⟨by first | rfl | (simp [errW_none, errW_some] <;> rfl) | (simp [*, errW_none, errW_some] <;> rfl), by repeat (first | (with_reducible first | exact HB.out | apply below_alloc | apply pw_below_drewN | apply below_drew1) | exact HB.out)⟩
        · rw [if_neg c61] at H
          have c61b0 : (t123 != false) = false := by simpa using c61
          (try (have c61b1 : decide (t123 = false) = true := by simpa using c61))
          (try (have c61b2 : (t123 == false) = true := by simpa using c61))
          clear c61
          by_cases c62 : t123 = true
          · subst c62
            have H1 : (if (wrap64 (t122)) = (wrap64 ((wrap64 ((wrap64 (65536 + (wrap64 (1024 * (wrap64 ((wrap64 (a0)) - 55296)))))) + (wrap64 (a1)))) - 56320)) then (if a2 < 65536 then ((larumlaw02_awake.f k).bind fun t144 => (some t144)) else (if a2 > 1114111 then ((larumlaw02_awake.f k).bind fun t145 => (some t145)) else ((utf_Pair.f (wrap32 (55296 + (wrap32 (Int.tdiv (wrap32 (a2 - 65536)) 1024)))) (wrap32 (56320 + (Int.tmod (wrap32 (a2 - 65536)) 1024)))).bind fun bt146 => (if bt146.2 = true then (if bt146.1 = a2 then ((larumlaw02_awake.f k).bind fun t148 => (some t148)) else (some false)) else (some false))))) else (some false)) = some r := by rw [if_pos rfl] at H; exact H
            clear H
            have H := H1
            clear H1
            by_cases c63 : (wrap64 (t122)) = (wrap64 ((wrap64 ((wrap64 (65536 + (wrap64 (1024 * (wrap64 ((wrap64 (a0)) - 55296)))))) + (wrap64 (a1)))) - 56320))
            · rw [if_pos c63] at H
              have c63b0 : ((wrap64 (t122)) == (wrap64 ((wrap64 ((wrap64 (65536 + (wrap64 (1024 * (wrap64 ((wrap64 (a0)) - 55296)))))) + (wrap64 (a1)))) - 56320))) = true := beq_iff_eq.mpr c63
              have c63b1 : ((wrap64 (t122)) != (wrap64 ((wrap64 ((wrap64 (65536 + (wrap64 (1024 * (wrap64 ((wrap64 (a0)) - 55296)))))) + (wrap64 (a1)))) - 56320))) = false := bne_eq_false_iff_eq.mpr c63
              clear c63
              by_cases c64 : a2 < 65536
              · rw [if_pos c64] at H
                have c64b0 : decide (a2 < 65536) = true := decide_eq_true c64
                clear c64
                replace H := Option.bind_eq_some_iff.mp H
                obtain ⟨t144, A650, H⟩ := H
                replace H : (some t144) = some r := H
                have A65 := Aside0.mk A650
                clear A650
                obtain rfl := Option.some.inj H
                go_enter Try.func4, Try.ntmps4
                go_wp2_with (first | ((with_reducible refine gate_callee (f := 10) rfl ?_); refine goesL_ (some 16) rfl rfl Try.func10 (by kernel_rfl) rfl #[.int .i32 a0, .int .i32 a1] rfl (by (try simp only [List.map_toArray, List.map_cons, List.map_nil]); first | done | rfl | (simp only [List.length_drop, List.length_take]; rfl)) ?_; (with_reducible refine (utf_Pair.calls a0 a1 t122 true _ A4.out).mono ?_); rintro e w' ⟨rfl, ⟨nd, rfl⟩⟩; refine ⟨_, rfl, ?_⟩) | ((with_reducible refine gate_callee (f := 9) rfl ?_); refine goesL_ (some 66) rfl rfl Try.func9 (by kernel_rfl) rfl #[] rfl (by (try simp only [List.map_toArray, List.map_cons, List.map_nil]); first | done | rfl | (simp only [List.length_drop, List.length_take]; rfl)) ?_; (with_reducible refine (larumlaw02_awake.calls k  t144 _ A65.out).mono ?_); rintro e w66 ⟨rfl, hb⟩; refine ⟨_, rfl, ?_⟩; have n0_ := Aside0.mk (below_step (by repeat (first | (with_reducible first | exact HB.out | apply below_alloc | apply pw_below_drewN | apply below_drew1) | exact HB.out)) hb); clear HB; have HB := n0_; clear n0_; (try clear hb); (try clear hb2); (try clear hk); (try clear hi)))
                go_ret
                exact ⟨by first | rfl | (simp [errW_none, errW_some] <;> rfl) | (simp [*, errW_none, errW_some] <;> rfl), by repeat (first | (with_reducible first | exact HB.out | apply below_alloc | apply pw_below_drewN | apply below_drew1) | exact HB.out)⟩
              · rw [if_neg c64] at H
                have c64b0 : decide (a2 < 65536) = false := decide_eq_false c64
                clear c64
                by_cases c67 : a2 > 1114111
                · rw [if_pos c67] at H
                  have c67b0 : decide (1114111 < a2) = true := decide_eq_true c67
                  clear c67
                  replace H := Option.bind_eq_some_iff.mp H
                  obtain ⟨t145, A680, H⟩ := H
                  replace H : (some t145) = some r := H
                  have A68 := Aside0.mk A680
                  clear A680
                  obtain rfl := Option.some.inj H
                  go_enter Try.func4, Try.ntmps4
                  go_wp2_with (first | ((with_reducible refine gate_callee (f := 10) rfl ?_); refine goesL_ (some 16) rfl rfl Try.func10 (by kernel_rfl) rfl #[.int .i32 a0, .int .i32 a1] rfl (by (try simp only [List.map_toArray, List.map_cons, List.map_nil]); first | done | rfl | (simp only [List.length_drop, List.length_take]; rfl)) ?_; (with_reducible refine (utf_Pair.calls a0 a1 t122 true _ A4.out).mono ?_); rintro e w' ⟨rfl, ⟨nd, rfl⟩⟩; refine ⟨_, rfl, ?_⟩) | ((with_reducible refine gate_callee (f := 9) rfl ?_); refine goesL_ (some 66) rfl rfl Try.func9 (by kernel_rfl) rfl #[] rfl (by (try simp only [List.map_toArray, List.map_cons, List.map_nil]); first | done | rfl | (simp only [List.length_drop, List.length_take]; rfl)) ?_; (with_reducible refine (larumlaw02_awake.calls k  t145 _ A68.out).mono ?_); rintro e w69 ⟨rfl, hb⟩; refine ⟨_, rfl, ?_⟩; have n0_ := Aside0.mk (below_step (by repeat (first | (with_reducible first | exact HB.out | apply below_alloc | apply pw_below_drewN | apply below_drew1) | exact HB.out)) hb); clear HB; have HB := n0_; clear n0_; (try clear hb); (try clear hb2); (try clear hk); (try clear hi)))
                  go_ret
                  exact ⟨by first | rfl | (simp [errW_none, errW_some] <;> rfl) | (simp [*, errW_none, errW_some] <;> rfl), by repeat (first | (with_reducible first | exact HB.out | apply below_alloc | apply pw_below_drewN | apply below_drew1) | exact HB.out)⟩
                · rw [if_neg c67] at H
                  have c67b0 : decide (1114111 < a2) = false := decide_eq_false c67
                  clear c67
                  replace H := Option.bind_eq_some_iff.mp H
                  obtain ⟨⟨t146, t147⟩, A700, H⟩ := H
                  replace H : (if t147 = true then (if t146 = a2 then ((larumlaw02_awake.f k).bind fun t148 => (some t148)) else (some false)) else (some false)) = some r := H
                  have A70 := Aside0.mk A700
                  clear A700
                  by_cases c71 : t147 = true
                  · subst c71
                    have H1 : (if t146 = a2 then ((larumlaw02_awake.f k).bind fun t148 => (some t148)) else (some false)) = some r := by rw [if_pos rfl] at H; exact H
                    clear H
                    have H := H1
                    clear H1
                    by_cases c72 : t146 = a2
                    · rw [if_pos c72] at H
                      have c72b0 : (t146 == a2) = true := beq_iff_eq.mpr c72
                      have c72b1 : (t146 != a2) = false := bne_eq_false_iff_eq.mpr c72
                      clear c72
                      replace H := Option.bind_eq_some_iff.mp H
                      obtain ⟨t148, A730, H⟩ := H
                      replace H : (some t148) = some r := H
                      have A73 := Aside0.mk A730
                      clear A730
                      obtain rfl := Option.some.inj H
                      go_enter Try.func4, Try.ntmps4
                      go_wp2_with (first | ((with_reducible refine gate_callee (f := 10) rfl ?_); refine goesL_ (some 16) rfl rfl Try.func10 (by kernel_rfl) rfl #[.int .i32 a0, .int .i32 a1] rfl (by (try simp only [List.map_toArray, List.map_cons, List.map_nil]); first | done | rfl | (simp only [List.length_drop, List.length_take]; rfl)) ?_; (with_reducible refine (utf_Pair.calls a0 a1 t122 true _ A4.out).mono ?_); rintro e w' ⟨rfl, ⟨nd, rfl⟩⟩; refine ⟨_, rfl, ?_⟩) | ((with_reducible refine gate_callee (f := 10) rfl ?_); refine goesL_ (some 76) rfl rfl Try.func10 (by kernel_rfl) rfl #[.int .i32 (wrap32 (55296 + (wrap32 (Int.tdiv (wrap32 (a2 - 65536)) 1024)))), .int .i32 (wrap32 (56320 + (Int.tmod (wrap32 (a2 - 65536)) 1024)))] rfl (by (try simp only [List.map_toArray, List.map_cons, List.map_nil]); first | done | rfl | (simp only [List.length_drop, List.length_take]; rfl)) ?_; (with_reducible refine (utf_Pair.calls (wrap32 (55296 + (wrap32 (Int.tdiv (wrap32 (a2 - 65536)) 1024)))) (wrap32 (56320 + (Int.tmod (wrap32 (a2 - 65536)) 1024))) t146 true _ A70.out).mono ?_); rintro e w' ⟨rfl, ⟨nd, rfl⟩⟩; refine ⟨_, rfl, ?_⟩) | (go_at_call 9; (with_reducible refine (larumlaw02_awake.calls k  t148 _ A73.out).mono ?_); rintro e w74 ⟨rfl, hb⟩; have n0_ := Aside0.mk (below_step (by repeat (first | (with_reducible first | exact HB.out | apply below_alloc | apply pw_below_drewN | apply below_drew1) | exact HB.out)) hb); clear HB; have HB := n0_; clear n0_; (try clear hb); (try clear hb2); (try clear hk); (try clear hi)))
                      go_ret
                      exact ⟨by first | rfl | (simp [errW_none, errW_some] <;> rfl) | (simp [*, errW_none, errW_some] <;> rfl), by repeat (first | (with_reducible first | exact HB.out | apply below_alloc | apply pw_below_drewN | apply below_drew1) | exact HB.out)⟩
                    · rw [if_neg c72] at H
                      have c72b0 : (t146 == a2) = false := beq_eq_false_iff_ne.mpr c72
                      have c72b1 : (t146 != a2) = true := bne_iff_ne.mpr c72
                      obtain rfl := Option.some.inj H
                      go_enter Try.func4, Try.ntmps4
                      go_wp2_with (first | ((with_reducible refine gate_callee (f := 10) rfl ?_); refine goesL_ (some 16) rfl rfl Try.func10 (by kernel_rfl) rfl #[.int .i32 a0, .int .i32 a1] rfl (by (try simp only [List.map_toArray, List.map_cons, List.map_nil]); first | done | rfl | (simp only [List.length_drop, List.length_take]; rfl)) ?_; (with_reducible refine (utf_Pair.calls a0 a1 t122 true _ A4.out).mono ?_); rintro e w' ⟨rfl, ⟨nd, rfl⟩⟩; refine ⟨_, rfl, ?_⟩) | ((with_reducible refine gate_callee (f := 10) rfl ?_); refine goesL_ (some 76) rfl rfl Try.func10 (by kernel_rfl) rfl #[.int .i32 (wrap32 (55296 + (wrap32 (Int.tdiv (wrap32 (a2 - 65536)) 1024)))), .int .i32 (wrap32 (56320 + (Int.tmod (wrap32 (a2 - 65536)) 1024)))] rfl (by (try simp only [List.map_toArray, List.map_cons, List.map_nil]); first | done | rfl | (simp only [List.length_drop, List.length_take]; rfl)) ?_; (with_reducible refine (utf_Pair.calls (wrap32 (55296 + (wrap32 (Int.tdiv (wrap32 (a2 - 65536)) 1024)))) (wrap32 (56320 + (Int.tmod (wrap32 (a2 - 65536)) 1024))) t146 true _ A70.out).mono ?_); rintro e w' ⟨rfl, ⟨nd, rfl⟩⟩; refine ⟨_, rfl, ?_⟩))
                      go_ret
                      exact ⟨by first | rfl | (simp [errW_none, errW_some] <;> rfl) | (simp [*, errW_none, errW_some] <;> rfl), by repeat (first | (with_reducible first | exact HB.out | apply below_alloc | apply pw_below_drewN | apply below_drew1) | exact HB.out)⟩
                  · replace c71 := Bool.eq_false_iff.mpr c71
                    subst c71
                    have H1 : (some false) = some r := by rw [if_neg (show ¬ (false = true) by decide)] at H; exact H
                    clear H
                    have H := H1
                    clear H1
                    obtain rfl := Option.some.inj H
                    go_enter Try.func4, Try.ntmps4
                    go_wp2_with (first | ((with_reducible refine gate_callee (f := 10) rfl ?_); refine goesL_ (some 16) rfl rfl Try.func10 (by kernel_rfl) rfl #[.int .i32 a0, .int .i32 a1] rfl (by (try simp only [List.map_toArray, List.map_cons, List.map_nil]); first | done | rfl | (simp only [List.length_drop, List.length_take]; rfl)) ?_; (with_reducible refine (utf_Pair.calls a0 a1 t122 true _ A4.out).mono ?_); rintro e w' ⟨rfl, ⟨nd, rfl⟩⟩; refine ⟨_, rfl, ?_⟩) | ((with_reducible refine gate_callee (f := 10) rfl ?_); refine goesL_ (some 76) rfl rfl Try.func10 (by kernel_rfl) rfl #[.int .i32 (wrap32 (55296 + (wrap32 (Int.tdiv (wrap32 (a2 - 65536)) 1024)))), .int .i32 (wrap32 (56320 + (Int.tmod (wrap32 (a2 - 65536)) 1024)))] rfl (by (try simp only [List.map_toArray, List.map_cons, List.map_nil]); first | done | rfl | (simp only [List.length_drop, List.length_take]; rfl)) ?_; (with_reducible refine (utf_Pair.calls (wrap32 (55296 + (wrap32 (Int.tdiv (wrap32 (a2 - 65536)) 1024)))) (wrap32 (56320 + (Int.tmod (wrap32 (a2 - 65536)) 1024))) t146 false _ A70.out).mono ?_); rintro e w' ⟨rfl, ⟨nd, rfl⟩⟩; refine ⟨_, rfl, ?_⟩))
                    go_ret
                    exact ⟨by first | rfl | (simp [errW_none, errW_some] <;> rfl) | (simp [*, errW_none, errW_some] <;> rfl), by repeat (first | (with_reducible first | exact HB.out | apply below_alloc | apply pw_below_drewN | apply below_drew1) | exact HB.out)⟩
            · rw [if_neg c63] at H
              have c63b0 : ((wrap64 (t122)) == (wrap64 ((wrap64 ((wrap64 (65536 + (wrap64 (1024 * (wrap64 ((wrap64 (a0)) - 55296)))))) + (wrap64 (a1)))) - 56320))) = false := beq_eq_false_iff_ne.mpr c63
              have c63b1 : ((wrap64 (t122)) != (wrap64 ((wrap64 ((wrap64 (65536 + (wrap64 (1024 * (wrap64 ((wrap64 (a0)) - 55296)))))) + (wrap64 (a1)))) - 56320))) = true := bne_iff_ne.mpr c63
              obtain rfl := Option.some.inj H
              go_enter Try.func4, Try.ntmps4
              go_wp2_with (first | ((with_reducible refine gate_callee (f := 10) rfl ?_); refine goesL_ (some 16) rfl rfl Try.func10 (by kernel_rfl) rfl #[.int .i32 a0, .int .i32 a1] rfl (by (try simp only [List.map_toArray, List.map_cons, List.map_nil]); first | done | rfl | (simp only [List.length_drop, List.length_take]; rfl)) ?_; (with_reducible refine (utf_Pair.calls a0 a1 t122 true _ A4.out).mono ?_); rintro e w' ⟨rfl, ⟨nd, rfl⟩⟩; refine ⟨_, rfl, ?_⟩))
              go_ret
              exact ⟨by first | rfl | (simp [errW_none, errW_some] <;> rfl) | (simp [*, errW_none, errW_some] <;> rfl), by repeat (first | (with_reducible first | exact HB.out | apply below_alloc | apply pw_below_drewN | apply below_drew1) | exact HB.out)⟩
          · replace c62 := Bool.eq_false_iff.mpr c62
            subst c62
            have H1 : (if t122 = 0 then (if a2 < 65536 then ((larumlaw02_awake.f k).bind fun t149 => (some t149)) else (if a2 > 1114111 then ((larumlaw02_awake.f k).bind fun t150 => (some t150)) else ((utf_Pair.f (wrap32 (55296 + (wrap32 (Int.tdiv (wrap32 (a2 - 65536)) 1024)))) (wrap32 (56320 + (Int.tmod (wrap32 (a2 - 65536)) 1024)))).bind fun bt151 => (if bt151.2 = true then (if bt151.1 = a2 then ((larumlaw02_awake.f k).bind fun t153 => (some t153)) else (some false)) else (some false))))) else (some false)) = some r := by rw [if_neg (show ¬ (false = true) by decide)] at H; exact H
            clear H
            have H := H1
            clear H1
            by_cases c75 : t122 = 0
            · rw [if_pos c75] at H
              have c75b0 : (t122 == 0) = true := beq_iff_eq.mpr c75
              have c75b1 : (t122 != 0) = false := bne_eq_false_iff_eq.mpr c75
              clear c75
              by_cases c76 : a2 < 65536
              · rw [if_pos c76] at H
                have c76b0 : decide (a2 < 65536) = true := decide_eq_true c76
                clear c76
                replace H := Option.bind_eq_some_iff.mp H
                obtain ⟨t149, A770, H⟩ := H
                replace H : (some t149) = some r := H
                have A77 := Aside0.mk A770
                clear A770
                obtain rfl := Option.some.inj H
                go_enter Try.func4, Try.ntmps4
                go_wp2_with (first | ((with_reducible refine gate_callee (f := 10) rfl ?_); refine goesL_ (some 16) rfl rfl Try.func10 (by kernel_rfl) rfl #[.int .i32 a0, .int .i32 a1] rfl (by (try simp only [List.map_toArray, List.map_cons, List.map_nil]); first | done | rfl | (simp only [List.length_drop, List.length_take]; rfl)) ?_; (with_reducible refine (utf_Pair.calls a0 a1 t122 false _ A4.out).mono ?_); rintro e w' ⟨rfl, ⟨nd, rfl⟩⟩; refine ⟨_, rfl, ?_⟩) | ((with_reducible refine gate_callee (f := 9) rfl ?_); refine goesL_ (some 66) rfl rfl Try.func9 (by kernel_rfl) rfl #[] rfl (by (try simp only [List.map_toArray, List.map_cons, List.map_nil]); first | done | rfl | (simp only [List.length_drop, List.length_take]; rfl)) ?_; (with_reducible refine (larumlaw02_awake.calls k  t149 _ A77.out).mono ?_); rintro e w78 ⟨rfl, hb⟩; refine ⟨_, rfl, ?_⟩; have n0_ := Aside0.mk (below_step (by repeat (first | (with_reducible first | exact HB.out | apply below_alloc | apply pw_below_drewN | apply below_drew1) | exact HB.out)) hb); clear HB; have HB := n0_; clear n0_; (try clear hb); (try clear hb2); (try clear hk); (try clear hi)))
                go_ret
                exact ⟨by first | rfl | (simp [errW_none, errW_some] <;> rfl) | (simp [*, errW_none, errW_some] <;> rfl), by repeat (first | (with_reducible first | exact HB.out | apply below_alloc | apply pw_below_drewN | apply below_drew1) | exact HB.out)⟩
              · rw [if_neg c76] at H
                have c76b0 : decide (a2 < 65536) = false := decide_eq_false c76
                clear c76
                by_cases c79 : a2 > 1114111
                · rw [if_pos c79] at H
                  have c79b0 : decide (1114111 < a2) = true := decide_eq_true c79
                  clear c79
                  replace H := Option.bind_eq_some_iff.mp H
                  obtain ⟨t150, A800, H⟩ := H
                  replace H : (some t150) = some r := H
                  have A80 := Aside0.mk A800
                  clear A800
                  obtain rfl := Option.some.inj H
                  go_enter Try.func4, Try.ntmps4
                  go_wp2_with (first | ((with_reducible refine gate_callee (f := 10) rfl ?_); refine goesL_ (some 16) rfl rfl Try.func10 (by kernel_rfl) rfl #[.int .i32 a0, .int .i32 a1] rfl (by (try simp only [List.map_toArray, List.map_cons, List.map_nil]); first | done | rfl | (simp only [List.length_drop, List.length_take]; rfl)) ?_; (with_reducible refine (utf_Pair.calls a0 a1 t122 false _ A4.out).mono ?_); rintro e w' ⟨rfl, ⟨nd, rfl⟩⟩; refine ⟨_, rfl, ?_⟩) | ((with_reducible refine gate_callee (f := 9) rfl ?_); refine goesL_ (some 66) rfl rfl Try.func9 (by kernel_rfl) rfl #[] rfl (by (try simp only [List.map_toArray, List.map_cons, List.map_nil]); first | done | rfl | (simp only [List.length_drop, List.length_take]; rfl)) ?_; (with_reducible refine (larumlaw02_awake.calls k  t150 _ A80.out).mono ?_); rintro e w81 ⟨rfl, hb⟩; refine ⟨_, rfl, ?_⟩; have n0_ := Aside0.mk (below_step (by repeat (first | (with_reducible first | exact HB.out | apply below_alloc | apply pw_below_drewN | apply below_drew1) | exact HB.out)) hb); clear HB; have HB := n0_; clear n0_; (try clear hb); (try clear hb2); (try clear hk); (try clear hi)))
                  go_ret
                  exact ⟨by first | rfl | (simp [errW_none, errW_some] <;> rfl) | (simp [*, errW_none, errW_some] <;> rfl), by repeat (first | (with_reducible first | exact HB.out | apply below_alloc | apply pw_below_drewN | apply below_drew1) | exact HB.out)⟩
                · rw [if_neg c79] at H
                  have c79b0 : decide (1114111 < a2) = false := decide_eq_false c79
                  clear c79
                  replace H := Option.bind_eq_some_iff.mp H
                  obtain ⟨⟨t151, t152⟩, A820, H⟩ := H
                  replace H : (if t152 = true then (if t151 = a2 then ((larumlaw02_awake.f k).bind fun t153 => (some t153)) else (some false)) else (some false)) = some r := H
                  have A82 := Aside0.mk A820
                  clear A820
                  by_cases c83 : t152 = true
                  · subst c83
                    have H1 : (if t151 = a2 then ((larumlaw02_awake.f k).bind fun t153 => (some t153)) else (some false)) = some r := by rw [if_pos rfl] at H; exact H
                    clear H
                    have H := H1
                    clear H1
                    by_cases c84 : t151 = a2
                    · rw [if_pos c84] at H
                      have c84b0 : (t151 == a2) = true := beq_iff_eq.mpr c84
                      have c84b1 : (t151 != a2) = false := bne_eq_false_iff_eq.mpr c84
                      clear c84
                      replace H := Option.bind_eq_some_iff.mp H
                      obtain ⟨t153, A850, H⟩ := H
                      replace H : (some t153) = some r := H
                      have A85 := Aside0.mk A850
                      clear A850
                      obtain rfl := Option.some.inj H
                      go_enter Try.func4, Try.ntmps4
                      go_wp2_with (first | ((with_reducible refine gate_callee (f := 10) rfl ?_); refine goesL_ (some 16) rfl rfl Try.func10 (by kernel_rfl) rfl #[.int .i32 a0, .int .i32 a1] rfl (by (try simp only [List.map_toArray, List.map_cons, List.map_nil]); first | done | rfl | (simp only [List.length_drop, List.length_take]; rfl)) ?_; (with_reducible refine (utf_Pair.calls a0 a1 t122 false _ A4.out).mono ?_); rintro e w' ⟨rfl, ⟨nd, rfl⟩⟩; refine ⟨_, rfl, ?_⟩) | ((with_reducible refine gate_callee (f := 10) rfl ?_); refine goesL_ (some 76) rfl rfl Try.func10 (by kernel_rfl) rfl #[.int .i32 (wrap32 (55296 + (wrap32 (Int.tdiv (wrap32 (a2 - 65536)) 1024)))), .int .i32 (wrap32 (56320 + (Int.tmod (wrap32 (a2 - 65536)) 1024)))] rfl (by (try simp only [List.map_toArray, List.map_cons, List.map_nil]); first | done | rfl | (simp only [List.length_drop, List.length_take]; rfl)) ?_; (with_reducible refine (utf_Pair.calls (wrap32 (55296 + (wrap32 (Int.tdiv (wrap32 (a2 - 65536)) 1024)))) (wrap32 (56320 + (Int.tmod (wrap32 (a2 - 65536)) 1024))) t151 true _ A82.out).mono ?_); rintro e w' ⟨rfl, ⟨nd, rfl⟩⟩; refine ⟨_, rfl, ?_⟩) | (go_at_call 9; (with_reducible refine (larumlaw02_awake.calls k  t153 _ A85.out).mono ?_); rintro e w86 ⟨rfl, hb⟩; have n0_ := Aside0.mk (below_step (by repeat (first | (with_reducible first | exact HB.out | apply below_alloc | apply pw_below_drewN | apply below_drew1) | exact HB.out)) hb); clear HB; have HB := n0_; clear n0_; (try clear hb); (try clear hb2); (try clear hk); (try clear hi)))
                      go_ret
                      exact ⟨by first | rfl | (simp [errW_none, errW_some] <;> rfl) | (simp [*, errW_none, errW_some] <;> rfl), by repeat (first | (with_reducible first | exact HB.out | apply below_alloc | apply pw_below_drewN | apply below_drew1) | exact HB.out)⟩
                    · rw [if_neg c84] at H
                      have c84b0 : (t151 == a2) = false := beq_eq_false_iff_ne.mpr c84
                      have c84b1 : (t151 != a2) = true := bne_iff_ne.mpr c84
                      obtain rfl := Option.some.inj H
                      go_enter Try.func4, Try.ntmps4
                      go_wp2_with (first | ((with_reducible refine gate_callee (f := 10) rfl ?_); refine goesL_ (some 16) rfl rfl Try.func10 (by kernel_rfl) rfl #[.int .i32 a0, .int .i32 a1] rfl (by (try simp only [List.map_toArray, List.map_cons, List.map_nil]); first | done | rfl | (simp only [List.length_drop, List.length_take]; rfl)) ?_; (with_reducible refine (utf_Pair.calls a0 a1 t122 false _ A4.out).mono ?_); rintro e w' ⟨rfl, ⟨nd, rfl⟩⟩; refine ⟨_, rfl, ?_⟩) | ((with_reducible refine gate_callee (f := 10) rfl ?_); refine goesL_ (some 76) rfl rfl Try.func10 (by kernel_rfl) rfl #[.int .i32 (wrap32 (55296 + (wrap32 (Int.tdiv (wrap32 (a2 - 65536)) 1024)))), .int .i32 (wrap32 (56320 + (Int.tmod (wrap32 (a2 - 65536)) 1024)))] rfl (by (try simp only [List.map_toArray, List.map_cons, List.map_nil]); first | done | rfl | (simp only [List.length_drop, List.length_take]; rfl)) ?_; (with_reducible refine (utf_Pair.calls (wrap32 (55296 + (wrap32 (Int.tdiv (wrap32 (a2 - 65536)) 1024)))) (wrap32 (56320 + (Int.tmod (wrap32 (a2 - 65536)) 1024))) t151 true _ A82.out).mono ?_); rintro e w' ⟨rfl, ⟨nd, rfl⟩⟩; refine ⟨_, rfl, ?_⟩))
                      go_ret
                      exact ⟨by first | rfl | (simp [errW_none, errW_some] <;> rfl) | (simp [*, errW_none, errW_some] <;> rfl), by repeat (first | (with_reducible first | exact HB.out | apply below_alloc | apply pw_below_drewN | apply below_drew1) | exact HB.out)⟩
                  · replace c83 := Bool.eq_false_iff.mpr c83
                    subst c83
                    have H1 : (some false) = some r := by rw [if_neg (show ¬ (false = true) by decide)] at H; exact H
                    clear H
                    have H := H1
                    clear H1
                    obtain rfl := Option.some.inj H
                    go_enter Try.func4, Try.ntmps4
                    go_wp2_with (first | ((with_reducible refine gate_callee (f := 10) rfl ?_); refine goesL_ (some 16) rfl rfl Try.func10 (by kernel_rfl) rfl #[.int .i32 a0, .int .i32 a1] rfl (by (try simp only [List.map_toArray, List.map_cons, List.map_nil]); first | done | rfl | (simp only [List.length_drop, List.length_take]; rfl)) ?_; (with_reducible refine (utf_Pair.calls a0 a1 t122 false _ A4.out).mono ?_); rintro e w' ⟨rfl, ⟨nd, rfl⟩⟩; refine ⟨_, rfl, ?_⟩) | ((with_reducible refine gate_callee (f := 10) rfl ?_); refine goesL_ (some 76) rfl rfl Try.func10 (by kernel_rfl) rfl #[.int .i32 (wrap32 (55296 + (wrap32 (Int.tdiv (wrap32 (a2 - 65536)) 1024)))), .int .i32 (wrap32 (56320 + (Int.tmod (wrap32 (a2 - 65536)) 1024)))] rfl (by (try simp only [List.map_toArray, List.map_cons, List.map_nil]); first | done | rfl | (simp only [List.length_drop, List.length_take]; rfl)) ?_; (with_reducible refine (utf_Pair.calls (wrap32 (55296 + (wrap32 (Int.tdiv (wrap32 (a2 - 65536)) 1024)))) (wrap32 (56320 + (Int.tmod (wrap32 (a2 - 65536)) 1024))) t151 false _ A82.out).mono ?_); rintro e w' ⟨rfl, ⟨nd, rfl⟩⟩; refine ⟨_, rfl, ?_⟩))
                    go_ret
                    exact ⟨by first | rfl | (simp [errW_none, errW_some] <;> rfl) | (simp [*, errW_none, errW_some] <;> rfl), by repeat (first | (with_reducible first | exact HB.out | apply below_alloc | apply pw_below_drewN | apply below_drew1) | exact HB.out)⟩
            · rw [if_neg c75] at H
              have c75b0 : (t122 == 0) = false := beq_eq_false_iff_ne.mpr c75
              have c75b1 : (t122 != 0) = true := bne_iff_ne.mpr c75
              obtain rfl := Option.some.inj H
              go_enter Try.func4, Try.ntmps4
              go_wp2_with (first | ((with_reducible refine gate_callee (f := 10) rfl ?_); refine goesL_ (some 16) rfl rfl Try.func10 (by kernel_rfl) rfl #[.int .i32 a0, .int .i32 a1] rfl (by (try simp only [List.map_toArray, List.map_cons, List.map_nil]); first | done | rfl | (simp only [List.length_drop, List.length_take]; rfl)) ?_; (with_reducible refine (utf_Pair.calls a0 a1 t122 false _ A4.out).mono ?_); rintro e w' ⟨rfl, ⟨nd, rfl⟩⟩; refine ⟨_, rfl, ?_⟩))
              go_ret
              exact ⟨by first | rfl | (simp [errW_none, errW_some] <;> rfl) | (simp [*, errW_none, errW_some] <;> rfl), by repeat (first | (with_reducible first | exact HB.out | apply below_alloc | apply pw_below_drewN | apply below_drew1) | exact HB.out)⟩
      · rw [if_neg c60] at H
        have c60b0 : decide (a0 ≤ 56319) = false := decide_eq_false c60
        clear c60
        by_cases c87 : (t123 != false) = true
        · rw [if_pos c87] at H
          have c87b0 : (t123 != false) = true := c87
          (try (have c87b1 : decide (t123 = false) = false := by simpa using c87))
          (try (have c87b2 : (t123 == false) = false := by simpa using c87))
          (try (have c87b3 : ¬ (t123 = false) := by simpa using c87))
          clear c87
          obtain rfl := Option.some.inj H
          go_enter Try.func4, Try.ntmps4
          go_wp2_with (first | ((with_reducible refine gate_callee (f := 10) rfl ?_); refine goesL_ (some 16) rfl rfl Try.func10 (by kernel_rfl) rfl #[.int .i32 a0, .int .i32 a1] rfl (by (try simp only [List.map_toArray, List.map_cons, List.map_nil]); first | done | rfl | (simp only [List.length_drop, List.length_take]; rfl)) ?_; (with_reducible refine (utf_Pair.calls a0 a1 t122 t123 _ A4.out).mono ?_); rintro e w' ⟨rfl, ⟨nd, rfl⟩⟩; refine ⟨_, rfl, ?_⟩))
          go_ret
          exact ⟨by first | rfl | (simp [errW_none, errW_some] <;> rfl) | (simp [*, errW_none, errW_some] <;> rfl), by repeat (first | (with_reducible first | exact HB.out | apply below_alloc | apply pw_below_drewN | apply below_drew1) | exact HB.out)⟩
        · rw [if_neg c87] at H
          have c87b0 : (t123 != false) = false := by simpa using c87
          (try (have c87b1 : decide (t123 = false) = true := by simpa using c87))
          (try (have c87b2 : (t123 == false) = true := by simpa using c87))
          clear c87
          by_cases c88 : t123 = true
          · subst c88
            have H1 : (if (wrap64 (t122)) = (wrap64 ((wrap64 ((wrap64 (65536 + (wrap64 (1024 * (wrap64 ((wrap64 (a0)) - 55296)))))) + (wrap64 (a1)))) - 56320)) then (if a2 < 65536 then ((larumlaw02_awake.f k).bind fun t154 => (some t154)) else (if a2 > 1114111 then ((larumlaw02_awake.f k).bind fun t155 => (some t155)) else ((utf_Pair.f (wrap32 (55296 + (wrap32 (Int.tdiv (wrap32 (a2 - 65536)) 1024)))) (wrap32 (56320 + (Int.tmod (wrap32 (a2 - 65536)) 1024)))).bind fun bt156 => (if bt156.2 = true then (if bt156.1 = a2 then ((larumlaw02_awake.f k).bind fun t158 => (some t158)) else (some false)) else (some false))))) else (some false)) = some r := by rw [if_pos rfl] at H; exact H
            clear H
            have H := H1
            clear H1
            by_cases c89 : (wrap64 (t122)) = (wrap64 ((wrap64 ((wrap64 (65536 + (wrap64 (1024 * (wrap64 ((wrap64 (a0)) - 55296)))))) + (wrap64 (a1)))) - 56320))
            · rw [if_pos c89] at H
              have c89b0 : ((wrap64 (t122)) == (wrap64 ((wrap64 ((wrap64 (65536 + (wrap64 (1024 * (wrap64 ((wrap64 (a0)) - 55296)))))) + (wrap64 (a1)))) - 56320))) = true := beq_iff_eq.mpr c89
              have c89b1 : ((wrap64 (t122)) != (wrap64 ((wrap64 ((wrap64 (65536 + (wrap64 (1024 * (wrap64 ((wrap64 (a0)) - 55296)))))) + (wrap64 (a1)))) - 56320))) = false := bne_eq_false_iff_eq.mpr c89
              clear c89
              by_cases c90 : a2 < 65536
              · rw [if_pos c90] at H
                have c90b0 : decide (a2 < 65536) = true := decide_eq_true c90
                clear c90
                replace H := Option.bind_eq_some_iff.mp H
                obtain ⟨t154, A910, H⟩ := H
                replace H : (some t154) = some r := H
                have A91 := Aside0.mk A910
                clear A910
                obtain rfl := Option.some.inj H
                go_enter Try.func4, Try.ntmps4
                go_wp2_with (first | ((with_reducible refine gate_callee (f := 10) rfl ?_); refine goesL_ (some 16) rfl rfl Try.func10 (by kernel_rfl) rfl #[.int .i32 a0, .int .i32 a1] rfl (by (try simp only [List.map_toArray, List.map_cons, List.map_nil]); first | done | rfl | (simp only [List.length_drop, List.length_take]; rfl)) ?_; (with_reducible refine (utf_Pair.calls a0 a1 t122 true _ A4.out).mono ?_); rintro e w' ⟨rfl, ⟨nd, rfl⟩⟩; refine ⟨_, rfl, ?_⟩) | ((with_reducible refine gate_callee (f := 9) rfl ?_); refine goesL_ (some 66) rfl rfl Try.func9 (by kernel_rfl) rfl #[] rfl (by (try simp only [List.map_toArray, List.map_cons, List.map_nil]); first | done | rfl | (simp only [List.length_drop, List.length_take]; rfl)) ?_; (with_reducible refine (larumlaw02_awake.calls k  t154 _ A91.out).mono ?_); rintro e w92 ⟨rfl, hb⟩; refine ⟨_, rfl, ?_⟩; have n0_ := Aside0.mk (below_step (by repeat (first | (with_reducible first | exact HB.out | apply below_alloc | apply pw_below_drewN | apply below_drew1) | exact HB.out)) hb); clear HB; have HB := n0_; clear n0_; (try clear hb); (try clear hb2); (try clear hk); (try clear hi)))
                go_ret
                exact ⟨by first | rfl | (simp [errW_none, errW_some] <;> rfl) | (simp [*, errW_none, errW_some] <;> rfl), by repeat (first | (with_reducible first | exact HB.out | apply below_alloc | apply pw_below_drewN | apply below_drew1) | exact HB.out)⟩
              · rw [if_neg c90] at H
                have c90b0 : decide (a2 < 65536) = false := decide_eq_false c90
                clear c90
                by_cases c93 : a2 > 1114111
                · rw [if_pos c93] at H
                  have c93b0 : decide (1114111 < a2) = true := decide_eq_true c93
                  clear c93
                  replace H := Option.bind_eq_some_iff.mp H
                  obtain ⟨t155, A940, H⟩ := H
                  replace H : (some t155) = some r := H
                  have A94 := Aside0.mk A940
                  clear A940
                  obtain rfl := Option.some.inj H
                  go_enter Try.func4, Try.ntmps4
                  go_wp2_with (first | ((with_reducible refine gate_callee (f := 10) rfl ?_); refine goesL_ (some 16) rfl rfl Try.func10 (by kernel_rfl) rfl #[.int .i32 a0, .int .i32 a1] rfl (by (try simp only [List.map_toArray, List.map_cons, List.map_nil]); first | done | rfl | (simp only [List.length_drop, List.length_take]; rfl)) ?_; (with_reducible refine (utf_Pair.calls a0 a1 t122 true _ A4.out).mono ?_); rintro e w' ⟨rfl, ⟨nd, rfl⟩⟩; refine ⟨_, rfl, ?_⟩) | ((with_reducible refine gate_callee (f := 9) rfl ?_); refine goesL_ (some 66) rfl rfl Try.func9 (by kernel_rfl) rfl #[] rfl (by (try simp only [List.map_toArray, List.map_cons, List.map_nil]); first | done | rfl | (simp only [List.length_drop, List.length_take]; rfl)) ?_; (with_reducible refine (larumlaw02_awake.calls k  t155 _ A94.out).mono ?_); rintro e w95 ⟨rfl, hb⟩; refine ⟨_, rfl, ?_⟩; have n0_ := Aside0.mk (below_step (by repeat (first | (with_reducible first | exact HB.out | apply below_alloc | apply pw_below_drewN | apply below_drew1) | exact HB.out)) hb); clear HB; have HB := n0_; clear n0_; (try clear hb); (try clear hb2); (try clear hk); (try clear hi)))
                  go_ret
                  exact ⟨by first | rfl | (simp [errW_none, errW_some] <;> rfl) | (simp [*, errW_none, errW_some] <;> rfl), by repeat (first | (with_reducible first | exact HB.out | apply below_alloc | apply pw_below_drewN | apply below_drew1) | exact HB.out)⟩
                · rw [if_neg c93] at H
                  have c93b0 : decide (1114111 < a2) = false := decide_eq_false c93
                  clear c93
                  replace H := Option.bind_eq_some_iff.mp H
                  obtain ⟨⟨t156, t157⟩, A960, H⟩ := H
                  replace H : (if t157 = true then (if t156 = a2 then ((larumlaw02_awake.f k).bind fun t158 => (some t158)) else (some false)) else (some false)) = some r := H
                  have A96 := Aside0.mk A960
                  clear A960
                  by_cases c97 : t157 = true
                  · subst c97
                    have H1 : (if t156 = a2 then ((larumlaw02_awake.f k).bind fun t158 => (some t158)) else (some false)) = some r := by rw [if_pos rfl] at H; exact H
                    clear H
                    have H := H1
                    clear H1
                    by_cases c98 : t156 = a2
                    · rw [if_pos c98] at H
                      have c98b0 : (t156 == a2) = true := beq_iff_eq.mpr c98
                      have c98b1 : (t156 != a2) = false := bne_eq_false_iff_eq.mpr c98
                      clear c98
                      replace H := Option.bind_eq_some_iff.mp H
                      obtain ⟨t158, A990, H⟩ := H
                      replace H : (some t158) = some r := H
                      have A99 := Aside0.mk A990
                      clear A990
                      obtain rfl := Option.some.inj H
                      go_enter Try.func4, Try.ntmps4
                      go_wp2_with (first | ((with_reducible refine gate_callee (f := 10) rfl ?_); refine goesL_ (some 16) rfl rfl Try.func10 (by kernel_rfl) rfl #[.int .i32 a0, .int .i32 a1] rfl (by (try simp only [List.map_toArray, List.map_cons, List.map_nil]); first | done | rfl | (simp only [List.length_drop, List.length_take]; rfl)) ?_; (with_reducible refine (utf_Pair.calls a0 a1 t122 true _ A4.out).mono ?_); rintro e w' ⟨rfl, ⟨nd, rfl⟩⟩; refine ⟨_, rfl, ?_⟩) | ((with_reducible refine gate_callee (f := 10) rfl ?_); refine goesL_ (some 76) rfl rfl Try.func10 (by kernel_rfl) rfl #[.int .i32 (wrap32 (55296 + (wrap32 (Int.tdiv (wrap32 (a2 - 65536)) 1024)))), .int .i32 (wrap32 (56320 + (Int.tmod (wrap32 (a2 - 65536)) 1024)))] rfl (by (try simp only [List.map_toArray, List.map_cons, List.map_nil]); first | done | rfl | (simp only [List.length_drop, List.length_take]; rfl)) ?_; (with_reducible refine (utf_Pair.calls (wrap32 (55296 + (wrap32 (Int.tdiv (wrap32 (a2 - 65536)) 1024)))) (wrap32 (56320 + (Int.tmod (wrap32 (a2 - 65536)) 1024))) t156 true _ A96.out).mono ?_); rintro e w' ⟨rfl, ⟨nd, rfl⟩⟩; refine ⟨_, rfl, ?_⟩) | (go_at_call 9; (with_reducible refine (larumlaw02_awake.calls k  t158 _ A99.out).mono ?_); rintro e w100 ⟨rfl, hb⟩; have n0_ := Aside0.mk (below_step (by repeat (first | (with_reducible first | exact HB.out | apply below_alloc | apply pw_below_drewN | apply below_drew1) | exact HB.out)) hb); clear HB; have HB := n0_; clear n0_; (try clear hb); (try clear hb2); (try clear hk); (try clear hi)))
                      go_ret
                      exact ⟨by first | rfl | (simp [errW_none, errW_some] <;> rfl) | (simp [*, errW_none, errW_some] <;> rfl), by repeat (first | (with_reducible first | exact HB.out | apply below_alloc | apply pw_below_drewN | apply below_drew1) | exact HB.out)⟩
                    · rw [if_neg c98] at H
                      have c98b0 : (t156 == a2) = false := beq_eq_false_iff_ne.mpr c98
                      have c98b1 : (t156 != a2) = true := bne_iff_ne.mpr c98
                      obtain rfl := Option.some.inj H
                      go_enter Try.func4, Try.ntmps4
                      go_wp2_with (first | ((with_reducible refine gate_callee (f := 10) rfl ?_); refine goesL_ (some 16) rfl rfl Try.func10 (by kernel_rfl) rfl #[.int .i32 a0, .int .i32 a1] rfl (by (try simp only [List.map_toArray, List.map_cons, List.map_nil]); first | done | rfl | (simp only [List.length_drop, List.length_take]; rfl)) ?_; (with_reducible refine (utf_Pair.calls a0 a1 t122 true _ A4.out).mono ?_); rintro e w' ⟨rfl, ⟨nd, rfl⟩⟩; refine ⟨_, rfl, ?_⟩) | ((with_reducible refine gate_callee (f := 10) rfl ?_); refine goesL_ (some 76) rfl rfl Try.func10 (by kernel_rfl) rfl #[.int .i32 (wrap32 (55296 + (wrap32 (Int.tdiv (wrap32 (a2 - 65536)) 1024)))), .int .i32 (wrap32 (56320 + (Int.tmod (wrap32 (a2 - 65536)) 1024)))] rfl (by (try simp only [List.map_toArray, List.map_cons, List.map_nil]); first | done | rfl | (simp only [List.length_drop, List.length_take]; rfl)) ?_; (with_reducible refine (utf_Pair.calls (wrap32 (55296 + (wrap32 (Int.tdiv (wrap32 (a2 - 65536)) 1024)))) (wrap32 (56320 + (Int.tmod (wrap32 (a2 - 65536)) 1024))) t156 true _ A96.out).mono ?_); rintro e w' ⟨rfl, ⟨nd, rfl⟩⟩; refine ⟨_, rfl, ?_⟩))
                      go_ret
                      exact ⟨by first | rfl | (simp [errW_none, errW_some] <;> rfl) | (simp [*, errW_none, errW_some] <;> rfl), by repeat (first | (with_reducible first | exact HB.out | apply below_alloc | apply pw_below_drewN | apply below_drew1) | exact HB.out)⟩
                  · replace c97 := Bool.eq_false_iff.mpr c97
                    subst c97
                    have H1 : (some false) = some r := by rw [if_neg (show ¬ (false = true) by decide)] at H; exact H
                    clear H
                    have H := H1
                    clear H1
                    obtain rfl := Option.some.inj H
                    go_enter Try.func4, Try.ntmps4
                    go_wp2_with (first | ((with_reducible refine gate_callee (f := 10) rfl ?_); refine goesL_ (some 16) rfl rfl Try.func10 (by kernel_rfl) rfl #[.int .i32 a0, .int .i32 a1] rfl (by (try simp only [List.map_toArray, List.map_cons, List.map_nil]); first | done | rfl | (simp only [List.length_drop, List.length_take]; rfl)) ?_; (with_reducible refine (utf_Pair.calls a0 a1 t122 true _ A4.out).mono ?_); rintro e w' ⟨rfl, ⟨nd, rfl⟩⟩; refine ⟨_, rfl, ?_⟩) | ((with_reducible refine gate_callee (f := 10) rfl ?_); refine goesL_ (some 76) rfl rfl Try.func10 (by kernel_rfl) rfl #[.int .i32 (wrap32 (55296 + (wrap32 (Int.tdiv (wrap32 (a2 - 65536)) 1024)))), .int .i32 (wrap32 (56320 + (Int.tmod (wrap32 (a2 - 65536)) 1024)))] rfl (by (try simp only [List.map_toArray, List.map_cons, List.map_nil]); first | done | rfl | (simp only [List.length_drop, List.length_take]; rfl)) ?_; (with_reducible refine (utf_Pair.calls (wrap32 (55296 + (wrap32 (Int.tdiv (wrap32 (a2 - 65536)) 1024)))) (wrap32 (56320 + (Int.tmod (wrap32 (a2 - 65536)) 1024))) t156 false _ A96.out).mono ?_); rintro e w' ⟨rfl, ⟨nd, rfl⟩⟩; refine ⟨_, rfl, ?_⟩))
                    go_ret
                    exact ⟨by first | rfl | (simp [errW_none, errW_some] <;> rfl) | (simp [*, errW_none, errW_some] <;> rfl), by repeat (first | (with_reducible first | exact HB.out | apply below_alloc | apply pw_below_drewN | apply below_drew1) | exact HB.out)⟩
            · rw [if_neg c89] at H
              have c89b0 : ((wrap64 (t122)) == (wrap64 ((wrap64 ((wrap64 (65536 + (wrap64 (1024 * (wrap64 ((wrap64 (a0)) - 55296)))))) + (wrap64 (a1)))) - 56320))) = false := beq_eq_false_iff_ne.mpr c89
              have c89b1 : ((wrap64 (t122)) != (wrap64 ((wrap64 ((wrap64 (65536 + (wrap64 (1024 * (wrap64 ((wrap64 (a0)) - 55296)))))) + (wrap64 (a1)))) - 56320))) = true := bne_iff_ne.mpr c89
              obtain rfl := Option.some.inj H
              go_enter Try.func4, Try.ntmps4
              go_wp2_with (first | ((with_reducible refine gate_callee (f := 10) rfl ?_); refine goesL_ (some 16) rfl rfl Try.func10 (by kernel_rfl) rfl #[.int .i32 a0, .int .i32 a1] rfl (by (try simp only [List.map_toArray, List.map_cons, List.map_nil]); first | done | rfl | (simp only [List.length_drop, List.length_take]; rfl)) ?_; (with_reducible refine (utf_Pair.calls a0 a1 t122 true _ A4.out).mono ?_); rintro e w' ⟨rfl, ⟨nd, rfl⟩⟩; refine ⟨_, rfl, ?_⟩))
              go_ret
              exact ⟨by first | rfl | (simp [errW_none, errW_some] <;> rfl) | (simp [*, errW_none, errW_some] <;> rfl), by repeat (first | (with_reducible first | exact HB.out | apply below_alloc | apply pw_below_drewN | apply below_drew1) | exact HB.out)⟩
          · replace c88 := Bool.eq_false_iff.mpr c88
            subst c88
            have H1 : (if t122 = 0 then (if a2 < 65536 then ((larumlaw02_awake.f k).bind fun t159 => (some t159)) else (if a2 > 1114111 then ((larumlaw02_awake.f k).bind fun t160 => (some t160)) else ((utf_Pair.f (wrap32 (55296 + (wrap32 (Int.tdiv (wrap32 (a2 - 65536)) 1024)))) (wrap32 (56320 + (Int.tmod (wrap32 (a2 - 65536)) 1024)))).bind fun bt161 => (if bt161.2 = true then (if bt161.1 = a2 then ((larumlaw02_awake.f k).bind fun t163 => (some t163)) else (some false)) else (some false))))) else (some false)) = some r := by rw [if_neg (show ¬ (false = true) by decide)] at H; exact H
            clear H
            have H := H1
            clear H1
            by_cases c101 : t122 = 0
            · rw [if_pos c101] at H
              have c101b0 : (t122 == 0) = true := beq_iff_eq.mpr c101
              have c101b1 : (t122 != 0) = false := bne_eq_false_iff_eq.mpr c101
              clear c101
              by_cases c102 : a2 < 65536
              · rw [if_pos c102] at H
                have c102b0 : decide (a2 < 65536) = true := decide_eq_true c102
                clear c102
                replace H := Option.bind_eq_some_iff.mp H
                obtain ⟨t159, A1030, H⟩ := H
                replace H : (some t159) = some r := H
                have A103 := Aside0.mk A1030
                clear A1030
                obtain rfl := Option.some.inj H
                go_enter Try.func4, Try.ntmps4
                go_wp2_with (first | ((with_reducible refine gate_callee (f := 10) rfl ?_); refine goesL_ (some 16) rfl rfl Try.func10 (by kernel_rfl) rfl #[.int .i32 a0, .int .i32 a1] rfl (by (try simp only [List.map_toArray, List.map_cons, List.map_nil]); first | done | rfl | (simp only [List.length_drop, List.length_take]; rfl)) ?_; (with_reducible refine (utf_Pair.calls a0 a1 t122 false _ A4.out).mono ?_); rintro e w' ⟨rfl, ⟨nd, rfl⟩⟩; refine ⟨_, rfl, ?_⟩) | ((with_reducible refine gate_callee (f := 9) rfl ?_); refine goesL_ (some 66) rfl rfl Try.func9 (by kernel_rfl) rfl #[] rfl (by (try simp only [List.map_toArray, List.map_cons, List.map_nil]); first | done | rfl | (simp only [List.length_drop, List.length_take]; rfl)) ?_; (with_reducible refine (larumlaw02_awake.calls k  t159 _ A103.out).mono ?_); rintro e w104 ⟨rfl, hb⟩; refine ⟨_, rfl, ?_⟩; have n0_ := Aside0.mk (below_step (by repeat (first | (with_reducible first | exact HB.out | apply below_alloc | apply pw_below_drewN | apply below_drew1) | exact HB.out)) hb); clear HB; have HB := n0_; clear n0_; (try clear hb); (try clear hb2); (try clear hk); (try clear hi)))
                go_ret
                exact ⟨by first | rfl | (simp [errW_none, errW_some] <;> rfl) | (simp [*, errW_none, errW_some] <;> rfl), by repeat (first | (with_reducible first | exact HB.out | apply below_alloc | apply pw_below_drewN | apply below_drew1) | exact HB.out)⟩
              · rw [if_neg c102] at H
                have c102b0 : decide (a2 < 65536) = false := decide_eq_false c102
                clear c102
                by_cases c105 : a2 > 1114111
                · rw [if_pos c105] at H
                  have c105b0 : decide (1114111 < a2) = true := decide_eq_true c105
                  clear c105
                  replace H := Option.bind_eq_some_iff.mp H
                  obtain ⟨t160, A1060, H⟩ := H
                  replace H : (some t160) = some r := H
                  have A106 := Aside0.mk A1060
                  clear A1060
                  obtain rfl := Option.some.inj H
                  go_enter Try.func4, Try.ntmps4
                  go_wp2_with (first | ((with_reducible refine gate_callee (f := 10) rfl ?_); refine goesL_ (some 16) rfl rfl Try.func10 (by kernel_rfl) rfl #[.int .i32 a0, .int .i32 a1] rfl (by (try simp only [List.map_toArray, List.map_cons, List.map_nil]); first | done | rfl | (simp only [List.length_drop, List.length_take]; rfl)) ?_; (with_reducible refine (utf_Pair.calls a0 a1 t122 false _ A4.out).mono ?_); rintro e w' ⟨rfl, ⟨nd, rfl⟩⟩; refine ⟨_, rfl, ?_⟩) | ((with_reducible refine gate_callee (f := 9) rfl ?_); refine goesL_ (some 66) rfl rfl Try.func9 (by kernel_rfl) rfl #[] rfl (by (try simp only [List.map_toArray, List.map_cons, List.map_nil]); first | done | rfl | (simp only [List.length_drop, List.length_take]; rfl)) ?_; (with_reducible refine (larumlaw02_awake.calls k  t160 _ A106.out).mono ?_); rintro e w107 ⟨rfl, hb⟩; refine ⟨_, rfl, ?_⟩; have n0_ := Aside0.mk (below_step (by repeat (first | (with_reducible first | exact HB.out | apply below_alloc | apply pw_below_drewN | apply below_drew1) | exact HB.out)) hb); clear HB; have HB := n0_; clear n0_; (try clear hb); (try clear hb2); (try clear hk); (try clear hi)))
                  go_ret
                  exact ⟨by first | rfl | (simp [errW_none, errW_some] <;> rfl) | (simp [*, errW_none, errW_some] <;> rfl), by repeat (first | (with_reducible first | exact HB.out | apply below_alloc | apply pw_below_drewN | apply below_drew1) | exact HB.out)⟩
                · rw [if_neg c105] at H
                  have c105b0 : decide (1114111 < a2) = false := decide_eq_false c105
                  clear c105
                  replace H := Option.bind_eq_some_iff.mp H
                  obtain ⟨⟨t161, t162⟩, A1080, H⟩ := H
                  replace H : (if t162 = true then (if t161 = a2 then ((larumlaw02_awake.f k).bind fun t163 => (some t163)) else (some false)) else (some false)) = some r := H
                  have A108 := Aside0.mk A1080
                  clear A1080
                  by_cases c109 : t162 = true
                  · subst c109
                    have H1 : (if t161 = a2 then ((larumlaw02_awake.f k).bind fun t163 => (some t163)) else (some false)) = some r := by rw [if_pos rfl] at H; exact H
                    clear H
                    have H := H1
                    clear H1
                    by_cases c110 : t161 = a2
                    · rw [if_pos c110] at H
                      have c110b0 : (t161 == a2) = true := beq_iff_eq.mpr c110
                      have c110b1 : (t161 != a2) = false := bne_eq_false_iff_eq.mpr c110
                      clear c110
                      replace H := Option.bind_eq_some_iff.mp H
                      obtain ⟨t163, A1110, H⟩ := H
                      replace H : (some t163) = some r := H
                      have A111 := Aside0.mk A1110
                      clear A1110
                      obtain rfl := Option.some.inj H
                      go_enter Try.func4, Try.ntmps4
                      go_wp2_with (first | ((with_reducible refine gate_callee (f := 10) rfl ?_); refine goesL_ (some 16) rfl rfl Try.func10 (by kernel_rfl) rfl #[.int .i32 a0, .int .i32 a1] rfl (by (try simp only [List.map_toArray, List.map_cons, List.map_nil]); first | done | rfl | (simp only [List.length_drop, List.length_take]; rfl)) ?_; (with_reducible refine (utf_Pair.calls a0 a1 t122 false _ A4.out).mono ?_); rintro e w' ⟨rfl, ⟨nd, rfl⟩⟩; refine ⟨_, rfl, ?_⟩) | ((with_reducible refine gate_callee (f := 10) rfl ?_); refine goesL_ (some 76) rfl rfl Try.func10 (by kernel_rfl) rfl #[.int .i32 (wrap32 (55296 + (wrap32 (Int.tdiv (wrap32 (a2 - 65536)) 1024)))), .int .i32 (wrap32 (56320 + (Int.tmod (wrap32 (a2 - 65536)) 1024)))] rfl (by (try simp only [List.map_toArray, List.map_cons, List.map_nil]); first | done | rfl | (simp only [List.length_drop, List.length_take]; rfl)) ?_; (with_reducible refine (utf_Pair.calls (wrap32 (55296 + (wrap32 (Int.tdiv (wrap32 (a2 - 65536)) 1024)))) (wrap32 (56320 + (Int.tmod (wrap32 (a2 - 65536)) 1024))) t161 true _ A108.out).mono ?_); rintro e w' ⟨rfl, ⟨nd, rfl⟩⟩; refine ⟨_, rfl, ?_⟩) | (go_at_call 9; (with_reducible refine (larumlaw02_awake.calls k  t163 _ A111.out).mono ?_); rintro e w112 ⟨rfl, hb⟩; have n0_ := Aside0.mk (below_step (by repeat (first | (with_reducible first | exact HB.out | apply below_alloc | apply pw_below_drewN | apply below_drew1) | exact HB.out)) hb); clear HB; have HB := n0_; clear n0_; (try clear hb); (try clear hb2); (try clear hk); (try clear hi)))
                      go_ret
                      exact ⟨by first | rfl | (simp [errW_none, errW_some] <;> rfl) | (simp [*, errW_none, errW_some] <;> rfl), by repeat (first | (with_reducible first | exact HB.out | apply below_alloc | apply pw_below_drewN | apply below_drew1) | exact HB.out)⟩
                    · rw [if_neg c110] at H
                      have c110b0 : (t161 == a2) = false := beq_eq_false_iff_ne.mpr c110
                      have c110b1 : (t161 != a2) = true := bne_iff_ne.mpr c110
                      obtain rfl := Option.some.inj H
                      go_enter Try.func4, Try.ntmps4
                      go_wp2_with (first | ((with_reducible refine gate_callee (f := 10) rfl ?_); refine goesL_ (some 16) rfl rfl Try.func10 (by kernel_rfl) rfl #[.int .i32 a0, .int .i32 a1] rfl (by (try simp only [List.map_toArray, List.map_cons, List.map_nil]); first | done | rfl | (simp only [List.length_drop, List.length_take]; rfl)) ?_; (with_reducible refine (utf_Pair.calls a0 a1 t122 false _ A4.out).mono ?_); rintro e w' ⟨rfl, ⟨nd, rfl⟩⟩; refine ⟨_, rfl, ?_⟩) | ((with_reducible refine gate_callee (f := 10) rfl ?_); refine goesL_ (some 76) rfl rfl Try.func10 (by kernel_rfl) rfl #[.int .i32 (wrap32 (55296 + (wrap32 (Int.tdiv (wrap32 (a2 - 65536)) 1024)))), .int .i32 (wrap32 (56320 + (Int.tmod (wrap32 (a2 - 65536)) 1024)))] rfl (by (try simp only [List.map_toArray, List.map_cons, List.map_nil]); first | done | rfl | (simp only [List.length_drop, List.length_take]; rfl)) ?_; (with_reducible refine (utf_Pair.calls (wrap32 (55296 + (wrap32 (Int.tdiv (wrap32 (a2 - 65536)) 1024)))) (wrap32 (56320 + (Int.tmod (wrap32 (a2 - 65536)) 1024))) t161 true _ A108.out).mono ?_); rintro e w' ⟨rfl, ⟨nd, rfl⟩⟩; refine ⟨_, rfl, ?_⟩))
                      go_ret
                      exact ⟨by first | rfl | (simp [errW_none, errW_some] <;> rfl) | (simp [*, errW_none, errW_some] <;> rfl), by repeat (first | (with_reducible first | exact HB.out | apply below_alloc | apply pw_below_drewN | apply below_drew1) | exact HB.out)⟩
                  · replace c109 := Bool.eq_false_iff.mpr c109
                    subst c109
                    have H1 : (some false) = some r := by rw [if_neg (show ¬ (false = true) by decide)] at H; exact H
                    clear H
                    have H := H1
                    clear H1
                    obtain rfl := Option.some.inj H
                    go_enter Try.func4, Try.ntmps4
                    go_wp2_with (first | ((with_reducible refine gate_callee (f := 10) rfl ?_); refine goesL_ (some 16) rfl rfl Try.func10 (by kernel_rfl) rfl #[.int .i32 a0, .int .i32 a1] rfl (by (try simp only [List.map_toArray, List.map_cons, List.map_nil]); first | done | rfl | (simp only [List.length_drop, List.length_take]; rfl)) ?_; (with_reducible refine (utf_Pair.calls a0 a1 t122 false _ A4.out).mono ?_); rintro e w' ⟨rfl, ⟨nd, rfl⟩⟩; refine ⟨_, rfl, ?_⟩) | ((with_reducible refine gate_callee (f := 10) rfl ?_); refine goesL_ (some 76) rfl rfl Try.func10 (by kernel_rfl) rfl #[.int .i32 (wrap32 (55296 + (wrap32 (Int.tdiv (wrap32 (a2 - 65536)) 1024)))), .int .i32 (wrap32 (56320 + (Int.tmod (wrap32 (a2 - 65536)) 1024)))] rfl (by (try simp only [List.map_toArray, List.map_cons, List.map_nil]); first | done | rfl | (simp only [List.length_drop, List.length_take]; rfl)) ?_; (with_reducible refine (utf_Pair.calls (wrap32 (55296 + (wrap32 (Int.tdiv (wrap32 (a2 - 65536)) 1024)))) (wrap32 (56320 + (Int.tmod (wrap32 (a2 - 65536)) 1024))) t161 false _ A108.out).mono ?_); rintro e w' ⟨rfl, ⟨nd, rfl⟩⟩; refine ⟨_, rfl, ?_⟩))
                    go_ret
                    exact ⟨by first | rfl | (simp [errW_none, errW_some] <;> rfl) | (simp [*, errW_none, errW_some] <;> rfl), by repeat (first | (with_reducible first | exact HB.out | apply below_alloc | apply pw_below_drewN | apply below_drew1) | exact HB.out)⟩
            · rw [if_neg c101] at H
              have c101b0 : (t122 == 0) = false := beq_eq_false_iff_ne.mpr c101
              have c101b1 : (t122 != 0) = true := bne_iff_ne.mpr c101
              obtain rfl := Option.some.inj H
              go_enter Try.func4, Try.ntmps4
              go_wp2_with (first | ((with_reducible refine gate_callee (f := 10) rfl ?_); refine goesL_ (some 16) rfl rfl Try.func10 (by kernel_rfl) rfl #[.int .i32 a0, .int .i32 a1] rfl (by (try simp only [List.map_toArray, List.map_cons, List.map_nil]); first | done | rfl | (simp only [List.length_drop, List.length_take]; rfl)) ?_; (with_reducible refine (utf_Pair.calls a0 a1 t122 false _ A4.out).mono ?_); rintro e w' ⟨rfl, ⟨nd, rfl⟩⟩; refine ⟨_, rfl, ?_⟩))
              go_ret
              exact ⟨by first | rfl | (simp [errW_none, errW_some] <;> rfl) | (simp [*, errW_none, errW_some] <;> rfl), by repeat (first | (with_reducible first | exact HB.out | apply below_alloc | apply pw_below_drewN | apply below_drew1) | exact HB.out)⟩
  · rw [if_neg c5] at H
    have c5b0 : decide (55296 ≤ a0) = false := decide_eq_false c5
    clear c5
    by_cases c113 : a1 ≥ 56320
    · rw [if_pos c113] at H
      have c113b0 : decide (56320 ≤ a1) = true := decide_eq_true c113
      clear c113
      by_cases c114 : (t123 != false) = true
      · rw [if_pos c114] at H
        have c114b0 : (t123 != false) = true := c114
        (try (have c114b1 : decide (t123 = false) = false := by simpa using c114))
        (try (have c114b2 : (t123 == false) = false := by simpa using c114))
        (try (have c114b3 : ¬ (t123 = false) := by simpa using c114))
        clear c114
        obtain rfl := Option.some.inj H
        go_enter Try.func4, Try.ntmps4
        go_wp2_with (first | ((with_reducible refine gate_callee (f := 10) rfl ?_); refine goesL_ (some 16) rfl rfl Try.func10 (by kernel_rfl) rfl #[.int .i32 a0, .int .i32 a1] rfl (by (try simp only [List.map_toArray, List.map_cons, List.map_nil]); first | done | rfl | (simp only [List.length_drop, List.length_take]; rfl)) ?_; (with_reducible refine (utf_Pair.calls a0 a1 t122 t123 _ A4.out).mono ?_); rintro e w' ⟨rfl, ⟨nd, rfl⟩⟩; refine ⟨_, rfl, ?_⟩))
        go_ret
        exact ⟨by first | rfl | (simp [errW_none, errW_some] <;> rfl) | (simp [*, errW_none, errW_some] <;> rfl), by repeat (first | (with_reducible first | exact HB.out | apply below_alloc | apply pw_below_drewN | apply below_drew1) | exact HB.out)⟩
      · rw [if_neg c114] at H
        have c114b0 : (t123 != false) = false := by simpa using c114
        (try (have c114b1 : decide (t123 = false) = true := by simpa using c114))
        (try (have c114b2 : (t123 == false) = true := by simpa using c114))
        clear c114
        by_cases c115 : t123 = true
        · subst c115
          have H1 : (if (wrap64 (t122)) = (wrap64 ((wrap64 ((wrap64 (65536 + (wrap64 (1024 * (wrap64 ((wrap64 (a0)) - 55296)))))) + (wrap64 (a1)))) - 56320)) then (if a2 < 65536 then ((larumlaw02_awake.f k).bind fun t164 => (some t164)) else (if a2 > 1114111 then ((larumlaw02_awake.f k).bind fun t165 => (some t165)) else ((utf_Pair.f (wrap32 (55296 + (wrap32 (Int.tdiv (wrap32 (a2 - 65536)) 1024)))) (wrap32 (56320 + (Int.tmod (wrap32 (a2 - 65536)) 1024)))).bind fun bt166 => (if bt166.2 = true then (if bt166.1 = a2 then ((larumlaw02_awake.f k).bind fun t168 => (some t168)) else (some false)) else (some false))))) else (some false)) = some r := by rw [if_pos rfl] at H; exact H
          clear H
          have H := H1
          clear H1
          by_cases c116 : (wrap64 (t122)) = (wrap64 ((wrap64 ((wrap64 (65536 + (wrap64 (1024 * (wrap64 ((wrap64 (a0)) - 55296)))))) + (wrap64 (a1)))) - 56320))
          · rw [if_pos c116] at H
            have c116b0 : ((wrap64 (t122)) == (wrap64 ((wrap64 ((wrap64 (65536 + (wrap64 (1024 * (wrap64 ((wrap64 (a0)) - 55296)))))) + (wrap64 (a1)))) - 56320))) = true := beq_iff_eq.mpr c116
            have c116b1 : ((wrap64 (t122)) != (wrap64 ((wrap64 ((wrap64 (65536 + (wrap64 (1024 * (wrap64 ((wrap64 (a0)) - 55296)))))) + (wrap64 (a1)))) - 56320))) = false := bne_eq_false_iff_eq.mpr c116
            clear c116
            by_cases c117 : a2 < 65536
            · rw [if_pos c117] at H
              have c117b0 : decide (a2 < 65536) = true := decide_eq_true c117
              clear c117
              replace H := Option.bind_eq_some_iff.mp H
              obtain ⟨t164, A1180, H⟩ := H
              replace H : (some t164) = some r := H
              have A118 := Aside0.mk A1180
              clear A1180
              obtain rfl := Option.some.inj H
              go_enter Try.func4, Try.ntmps4
              go_wp2_with (first | ((with_reducible refine gate_callee (f := 10) rfl ?_); refine goesL_ (some 16) rfl rfl Try.func10 (by kernel_rfl) rfl #[.int .i32 a0, .int .i32 a1] rfl (by (try simp only [List.map_toArray, List.map_cons, List.map_nil]); first | done | rfl | (simp only [List.length_drop, List.length_take]; rfl)) ?_; (with_reducible refine (utf_Pair.calls a0 a1 t122 true _ A4.out).mono ?_); rintro e w' ⟨rfl, ⟨nd, rfl⟩⟩; refine ⟨_, rfl, ?_⟩) | ((with_reducible refine gate_callee (f := 9) rfl ?_); refine goesL_ (some 66) rfl rfl Try.func9 (by kernel_rfl) rfl #[] rfl (by (try simp only [List.map_toArray, List.map_cons, List.map_nil]); first | done | rfl | (simp only [List.length_drop, List.length_take]; rfl)) ?_; (with_reducible refine (larumlaw02_awake.calls k  t164 _ A118.out).mono ?_); rintro e w119 ⟨rfl, hb⟩; refine ⟨_, rfl, ?_⟩; have n0_ := Aside0.mk (below_step (by repeat (first | (with_reducible first | exact HB.out | apply below_alloc | apply pw_below_drewN | apply below_drew1) | exact HB.out)) hb); clear HB; have HB := n0_; clear n0_; (try clear hb); (try clear hb2); (try clear hk); (try clear hi)))
              go_ret
              exact ⟨by first | rfl | (simp [errW_none, errW_some] <;> rfl) | (simp [*, errW_none, errW_some] <;> rfl), by repeat (first | (with_reducible first | exact HB.out | apply below_alloc | apply pw_below_drewN | apply below_drew1) | exact HB.out)⟩
            · rw [if_neg c117] at H
              have c117b0 : decide (a2 < 65536) = false := decide_eq_false c117
              clear c117
              by_cases c120 : a2 > 1114111
              · rw [if_pos c120] at H
                have c120b0 : decide (1114111 < a2) = true := decide_eq_true c120
                clear c120
                replace H := Option.bind_eq_some_iff.mp H
                obtain ⟨t165, A1210, H⟩ := H
                replace H : (some t165) = some r := H
                have A121 := Aside0.mk A1210
                clear A1210
                obtain rfl := Option.some.inj H
                go_enter Try.func4, Try.ntmps4
                go_wp2_with (first | ((with_reducible refine gate_callee (f := 10) rfl ?_); refine goesL_ (some 16) rfl rfl Try.func10 (by kernel_rfl) rfl #[.int .i32 a0, .int .i32 a1] rfl (by (try simp only [List.map_toArray, List.map_cons, List.map_nil]); first | done | rfl | (simp only [List.length_drop, List.length_take]; rfl)) ?_; (with_reducible refine (utf_Pair.calls a0 a1 t122 true _ A4.out).mono ?_); rintro e w' ⟨rfl, ⟨nd, rfl⟩⟩; refine ⟨_, rfl, ?_⟩) | ((with_reducible refine gate_callee (f := 9) rfl ?_); refine goesL_ (some 66) rfl rfl Try.func9 (by kernel_rfl) rfl #[] rfl (by (try simp only [List.map_toArray, List.map_cons, List.map_nil]); first | done | rfl | (simp only [List.length_drop, List.length_take]; rfl)) ?_; (with_reducible refine (larumlaw02_awake.calls k  t165 _ A121.out).mono ?_); rintro e w122 ⟨rfl, hb⟩; refine ⟨_, rfl, ?_⟩; have n0_ := Aside0.mk (below_step (by repeat (first | (with_reducible first | exact HB.out | apply below_alloc | apply pw_below_drewN | apply below_drew1) | exact HB.out)) hb); clear HB; have HB := n0_; clear n0_; (try clear hb); (try clear hb2); (try clear hk); (try clear hi)))
                go_ret
                exact ⟨by first | rfl | (simp [errW_none, errW_some] <;> rfl) | (simp [*, errW_none, errW_some] <;> rfl), by repeat (first | (with_reducible first | exact HB.out | apply below_alloc | apply pw_below_drewN | apply below_drew1) | exact HB.out)⟩
              · rw [if_neg c120] at H
                have c120b0 : decide (1114111 < a2) = false := decide_eq_false c120
                clear c120
                replace H := Option.bind_eq_some_iff.mp H
                obtain ⟨⟨t166, t167⟩, A1230, H⟩ := H
                replace H : (if t167 = true then (if t166 = a2 then ((larumlaw02_awake.f k).bind fun t168 => (some t168)) else (some false)) else (some false)) = some r := H
                have A123 := Aside0.mk A1230
                clear A1230
                by_cases c124 : t167 = true
                · subst c124
                  have H1 : (if t166 = a2 then ((larumlaw02_awake.f k).bind fun t168 => (some t168)) else (some false)) = some r := by rw [if_pos rfl] at H; exact H
                  clear H
                  have H := H1
                  clear H1
                  by_cases c125 : t166 = a2
                  · rw [if_pos c125] at H
                    have c125b0 : (t166 == a2) = true := beq_iff_eq.mpr c125
                    have c125b1 : (t166 != a2) = false := bne_eq_false_iff_eq.mpr c125
                    clear c125
                    replace H := Option.bind_eq_some_iff.mp H
                    obtain ⟨t168, A1260, H⟩ := H
                    replace H : (some t168) = some r := H
                    have A126 := Aside0.mk A1260
                    clear A1260
                    obtain rfl := Option.some.inj H
                    go_enter Try.func4, Try.ntmps4
                    go_wp2_with (first | ((with_reducible refine gate_callee (f := 10) rfl ?_); refine goesL_ (some 16) rfl rfl Try.func10 (by kernel_rfl) rfl #[.int .i32 a0, .int .i32 a1] rfl (by (try simp only [List.map_toArray, List.map_cons, List.map_nil]); first | done | rfl | (simp only [List.length_drop, List.length_take]; rfl)) ?_; (with_reducible refine (utf_Pair.calls a0 a1 t122 true _ A4.out).mono ?_); rintro e w' ⟨rfl, ⟨nd, rfl⟩⟩; refine ⟨_, rfl, ?_⟩) | ((with_reducible refine gate_callee (f := 10) rfl ?_); refine goesL_ (some 76) rfl rfl Try.func10 (by kernel_rfl) rfl #[.int .i32 (wrap32 (55296 + (wrap32 (Int.tdiv (wrap32 (a2 - 65536)) 1024)))), .int .i32 (wrap32 (56320 + (Int.tmod (wrap32 (a2 - 65536)) 1024)))] rfl (by (try simp only [List.map_toArray, List.map_cons, List.map_nil]); first | done | rfl | (simp only [List.length_drop, List.length_take]; rfl)) ?_; (with_reducible refine (utf_Pair.calls (wrap32 (55296 + (wrap32 (Int.tdiv (wrap32 (a2 - 65536)) 1024)))) (wrap32 (56320 + (Int.tmod (wrap32 (a2 - 65536)) 1024))) t166 true _ A123.out).mono ?_); rintro e w' ⟨rfl, ⟨nd, rfl⟩⟩; refine ⟨_, rfl, ?_⟩) | (go_at_call 9; (with_reducible refine (larumlaw02_awake.calls k  t168 _ A126.out).mono ?_); rintro e w127 ⟨rfl, hb⟩; have n0_ := Aside0.mk (below_step (by repeat (first | (with_reducible first | exact HB.out | apply below_alloc | apply pw_below_drewN | apply below_drew1) | exact HB.out)) hb); clear HB; have HB := n0_; clear n0_; (try clear hb); (try clear hb2); (try clear hk); (try clear hi)))
                    go_ret
                    exact ⟨by first | rfl | (simp [errW_none, errW_some] <;> rfl) | (simp [*, errW_none, errW_some] <;> rfl), by repeat (first | (with_reducible first | exact HB.out | apply below_alloc | apply pw_below_drewN | apply below_drew1) | exact HB.out)⟩
                  · rw [if_neg c125] at H
                    have c125b0 : (t166 == a2) = false := beq_eq_false_iff_ne.mpr c125
                    have c125b1 : (t166 != a2) = true := bne_iff_ne.mpr c125
                    obtain rfl := Option.some.inj H
                    go_enter Try.func4, Try.ntmps4
                    go_wp2_with (first | ((with_reducible refine gate_callee (f := 10) rfl ?_); refine goesL_ (some 16) rfl rfl Try.func10 (by kernel_rfl) rfl #[.int .i32 a0, .int .i32 a1] rfl (by (try simp only [List.map_toArray, List.map_cons, List.map_nil]); first | done | rfl | (simp only [List.length_drop, List.length_take]; rfl)) ?_; (with_reducible refine (utf_Pair.calls a0 a1 t122 true _ A4.out).mono ?_); rintro e w' ⟨rfl, ⟨nd, rfl⟩⟩; refine ⟨_, rfl, ?_⟩) | ((with_reducible refine gate_callee (f := 10) rfl ?_); refine goesL_ (some 76) rfl rfl Try.func10 (by kernel_rfl) rfl #[.int .i32 (wrap32 (55296 + (wrap32 (Int.tdiv (wrap32 (a2 - 65536)) 1024)))), .int .i32 (wrap32 (56320 + (Int.tmod (wrap32 (a2 - 65536)) 1024)))] rfl (by (try simp only [List.map_toArray, List.map_cons, List.map_nil]); first | done | rfl | (simp only [List.length_drop, List.length_take]; rfl)) ?_; (with_reducible refine (utf_Pair.calls (wrap32 (55296 + (wrap32 (Int.tdiv (wrap32 (a2 - 65536)) 1024)))) (wrap32 (56320 + (Int.tmod (wrap32 (a2 - 65536)) 1024))) t166 true _ A123.out).mono ?_); rintro e w' ⟨rfl, ⟨nd, rfl⟩⟩; refine ⟨_, rfl, ?_⟩))
                    go_ret
                    exact ⟨by first | rfl | (simp [errW_none, errW_some] <;> rfl) | (simp [*, errW_none, errW_some] <;> rfl), by repeat (first | (with_reducible first | exact HB.out | apply below_alloc | apply pw_below_drewN | apply below_drew1) | exact HB.out)⟩
                · replace c124 := Bool.eq_false_iff.mpr c124
                  subst c124
                  have H1 : (some false) = some r := by rw [if_neg (show ¬ (false = true) by decide)] at H; exact H
                  clear H
                  have H := H1
                  clear H1
                  obtain rfl := Option.some.inj H
                  go_enter Try.func4, Try.ntmps4
                  go_wp2_with (first | ((with_reducible refine gate_callee (f := 10) rfl ?_); refine goesL_ (some 16) rfl rfl Try.func10 (by kernel_rfl) rfl #[.int .i32 a0, .int .i32 a1] rfl (by (try simp only [List.map_toArray, List.map_cons, List.map_nil]); first | done | rfl | (simp only [List.length_drop, List.length_take]; rfl)) ?_; (with_reducible refine (utf_Pair.calls a0 a1 t122 true _ A4.out).mono ?_); rintro e w' ⟨rfl, ⟨nd, rfl⟩⟩; refine ⟨_, rfl, ?_⟩) | ((with_reducible refine gate_callee (f := 10) rfl ?_); refine goesL_ (some 76) rfl rfl Try.func10 (by kernel_rfl) rfl #[.int .i32 (wrap32 (55296 + (wrap32 (Int.tdiv (wrap32 (a2 - 65536)) 1024)))), .int .i32 (wrap32 (56320 + (Int.tmod (wrap32 (a2 - 65536)) 1024)))] rfl (by (try simp only [List.map_toArray, List.map_cons, List.map_nil]); first | done | rfl | (simp only [List.length_drop, List.length_take]; rfl)) ?_; (with_reducible refine (utf_Pair.calls (wrap32 (55296 + (wrap32 (Int.tdiv (wrap32 (a2 - 65536)) 1024)))) (wrap32 (56320 + (Int.tmod (wrap32 (a2 - 65536)) 1024))) t166 false _ A123.out).mono ?_); rintro e w' ⟨rfl, ⟨nd, rfl⟩⟩; refine ⟨_, rfl, ?_⟩))
                  go_ret
                  exact ⟨by first | rfl | (simp [errW_none, errW_some] <;> rfl) | (simp [*, errW_none, errW_some] <;> rfl), by repeat (first | (with_reducible first | exact HB.out | apply below_alloc | apply pw_below_drewN | apply below_drew1) | exact HB.out)⟩
          · rw [if_neg c116] at H
            have c116b0 : ((wrap64 (t122)) == (wrap64 ((wrap64 ((wrap64 (65536 + (wrap64 (1024 * (wrap64 ((wrap64 (a0)) - 55296)))))) + (wrap64 (a1)))) - 56320))) = false := beq_eq_false_iff_ne.mpr c116
            have c116b1 : ((wrap64 (t122)) != (wrap64 ((wrap64 ((wrap64 (65536 + (wrap64 (1024 * (wrap64 ((wrap64 (a0)) - 55296)))))) + (wrap64 (a1)))) - 56320))) = true := bne_iff_ne.mpr c116
            obtain rfl := Option.some.inj H
            go_enter Try.func4, Try.ntmps4
            go_wp2_with (first | ((with_reducible refine gate_callee (f := 10) rfl ?_); refine goesL_ (some 16) rfl rfl Try.func10 (by kernel_rfl) rfl #[.int .i32 a0, .int .i32 a1] rfl (by (try simp only [List.map_toArray, List.map_cons, List.map_nil]); first | done | rfl | (simp only [List.length_drop, List.length_take]; rfl)) ?_; (with_reducible refine (utf_Pair.calls a0 a1 t122 true _ A4.out).mono ?_); rintro e w' ⟨rfl, ⟨nd, rfl⟩⟩; refine ⟨_, rfl, ?_⟩))
            go_ret
            exact ⟨by first | rfl | (simp [errW_none, errW_some] <;> rfl) | (simp [*, errW_none, errW_some] <;> rfl), by repeat (first | (with_reducible first | exact HB.out | apply below_alloc | apply pw_below_drewN | apply below_drew1) | exact HB.out)⟩
        · replace c115 := Bool.eq_false_iff.mpr c115
          subst c115
          have H1 : (if t122 = 0 then (if a2 < 65536 then ((larumlaw02_awake.f k).bind fun t169 => (some t169)) else (if a2 > 1114111 then ((larumlaw02_awake.f k).bind fun t170 => (some t170)) else ((utf_Pair.f (wrap32 (55296 + (wrap32 (Int.tdiv (wrap32 (a2 - 65536)) 1024)))) (wrap32 (56320 + (Int.tmod (wrap32 (a2 - 65536)) 1024)))).bind fun bt171 => (if bt171.2 = true then (if bt171.1 = a2 then ((larumlaw02_awake.f k).bind fun t173 => (some t173)) else (some false)) else (some false))))) else (some false)) = some r := by rw [if_neg (show ¬ (false = true) by decide)] at H; exact H
          clear H
          have H := H1
          clear H1
          by_cases c128 : t122 = 0
          · rw [if_pos c128] at H
            have c128b0 : (t122 == 0) = true := beq_iff_eq.mpr c128
            have c128b1 : (t122 != 0) = false := bne_eq_false_iff_eq.mpr c128
            clear c128
            by_cases c129 : a2 < 65536
            · rw [if_pos c129] at H
              have c129b0 : decide (a2 < 65536) = true := decide_eq_true c129
              clear c129
              replace H := Option.bind_eq_some_iff.mp H
              obtain ⟨t169, A1300, H⟩ := H
              replace H : (some t169) = some r := H
              have A130 := Aside0.mk A1300
              clear A1300
              obtain rfl := Option.some.inj H
              go_enter Try.func4, Try.ntmps4
              go_wp2_with (first | ((with_reducible refine gate_callee (f := 10) rfl ?_); refine goesL_ (some 16) rfl rfl Try.func10 (by kernel_rfl) rfl #[.int .i32 a0, .int .i32 a1] rfl (by (try simp only [List.map_toArray, List.map_cons, List.map_nil]); first | done | rfl | (simp only [List.length_drop, List.length_take]; rfl)) ?_; (with_reducible refine (utf_Pair.calls a0 a1 t122 false _ A4.out).mono ?_); rintro e w' ⟨rfl, ⟨nd, rfl⟩⟩; refine ⟨_, rfl, ?_⟩) | ((with_reducible refine gate_callee (f := 9) rfl ?_); refine goesL_ (some 66) rfl rfl Try.func9 (by kernel_rfl) rfl #[] rfl (by (try simp only [List.map_toArray, List.map_cons, List.map_nil]); first | done | rfl | (simp only [List.length_drop, List.length_take]; rfl)) ?_; (with_reducible refine (larumlaw02_awake.calls k  t169 _ A130.out).mono ?_); rintro e w131 ⟨rfl, hb⟩; refine ⟨_, rfl, ?_⟩; have n0_ := Aside0.mk (below_step (by repeat (first | (with_reducible first | exact HB.out | apply below_alloc | apply pw_below_drewN | apply below_drew1) | exact HB.out)) hb); clear HB; have HB := n0_; clear n0_; (try clear hb); (try clear hb2); (try clear hk); (try clear hi)))
              go_ret
              exact ⟨by first | rfl | (simp [errW_none, errW_some] <;> rfl) | (simp [*, errW_none, errW_some] <;> rfl), by repeat (first | (with_reducible first | exact HB.out | apply below_alloc | apply pw_below_drewN | apply below_drew1) | exact HB.out)⟩
            · rw [if_neg c129] at H
              have c129b0 : decide (a2 < 65536) = false := decide_eq_false c129
              clear c129
              by_cases c132 : a2 > 1114111
              · rw [if_pos c132] at H
                have c132b0 : decide (1114111 < a2) = true := decide_eq_true c132
                clear c132
                replace H := Option.bind_eq_some_iff.mp H
                obtain ⟨t170, A1330, H⟩ := H
                replace H : (some t170) = some r := H
                have A133 := Aside0.mk A1330
                clear A1330
                obtain rfl := Option.some.inj H
                go_enter Try.func4, Try.ntmps4
                go_wp2_with (first | ((with_reducible refine gate_callee (f := 10) rfl ?_); refine goesL_ (some 16) rfl rfl Try.func10 (by kernel_rfl) rfl #[.int .i32 a0, .int .i32 a1] rfl (by (try simp only [List.map_toArray, List.map_cons, List.map_nil]); first | done | rfl | (simp only [List.length_drop, List.length_take]; rfl)) ?_; (with_reducible refine (utf_Pair.calls a0 a1 t122 false _ A4.out).mono ?_); rintro e w' ⟨rfl, ⟨nd, rfl⟩⟩; refine ⟨_, rfl, ?_⟩) | ((with_reducible refine gate_callee (f := 9) rfl ?_); refine goesL_ (some 66) rfl rfl Try.func9 (by kernel_rfl) rfl #[] rfl (by (try simp only [List.map_toArray, List.map_cons, List.map_nil]); first | done | rfl | (simp only [List.length_drop, List.length_take]; rfl)) ?_; (with_reducible refine (larumlaw02_awake.calls k  t170 _ A133.out).mono ?_); rintro e w134 ⟨rfl, hb⟩; refine ⟨_, rfl, ?_⟩; have n0_ := Aside0.mk (below_step (by repeat (first | (with_reducible first | exact HB.out | apply below_alloc | apply pw_below_drewN | apply below_drew1) | exact HB.out)) hb); clear HB; have HB := n0_; clear n0_; (try clear hb); (try clear hb2); (try clear hk); (try clear hi)))
                go_ret
                exact ⟨by first | rfl | (simp [errW_none, errW_some] <;> rfl) | (simp [*, errW_none, errW_some] <;> rfl), by repeat (first | (with_reducible first | exact HB.out | apply below_alloc | apply pw_below_drewN | apply below_drew1) | exact HB.out)⟩
              · rw [if_neg c132] at H
                have c132b0 : decide (1114111 < a2) = false := decide_eq_false c132
                clear c132
                replace H := Option.bind_eq_some_iff.mp H
                obtain ⟨⟨t171, t172⟩, A1350, H⟩ := H
                replace H : (if t172 = true then (if t171 = a2 then ((larumlaw02_awake.f k).bind fun t173 => (some t173)) else (some false)) else (some false)) = some r := H
                have A135 := Aside0.mk A1350
                clear A1350
                by_cases c136 : t172 = true
                · subst c136
                  have H1 : (if t171 = a2 then ((larumlaw02_awake.f k).bind fun t173 => (some t173)) else (some false)) = some r := by rw [if_pos rfl] at H; exact H
                  clear H
                  have H := H1
                  clear H1
                  by_cases c137 : t171 = a2
                  · rw [if_pos c137] at H
                    have c137b0 : (t171 == a2) = true := beq_iff_eq.mpr c137
                    have c137b1 : (t171 != a2) = false := bne_eq_false_iff_eq.mpr c137
                    clear c137
                    replace H := Option.bind_eq_some_iff.mp H
                    obtain ⟨t173, A1380, H⟩ := H
                    replace H : (some t173) = some r := H
                    have A138 := Aside0.mk A1380
                    clear A1380
                    obtain rfl := Option.some.inj H
                    go_enter Try.func4, Try.ntmps4
                    go_wp2_with (first | ((with_reducible refine gate_callee (f := 10) rfl ?_); refine goesL_ (some 16) rfl rfl Try.func10 (by kernel_rfl) rfl #[.int .i32 a0, .int .i32 a1] rfl (by (try simp only [List.map_toArray, List.map_cons, List.map_nil]); first | done | rfl | (simp only [List.length_drop, List.length_take]; rfl)) ?_; (with_reducible refine (utf_Pair.calls a0 a1 t122 false _ A4.out).mono ?_); rintro e w' ⟨rfl, ⟨nd, rfl⟩⟩; refine ⟨_, rfl, ?_⟩) | ((with_reducible refine gate_callee (f := 10) rfl ?_); refine goesL_ (some 76) rfl rfl Try.func10 (by kernel_rfl) rfl #[.int .i32 (wrap32 (55296 + (wrap32 (Int.tdiv (wrap32 (a2 - 65536)) 1024)))), .int .i32 (wrap32 (56320 + (Int.tmod (wrap32 (a2 - 65536)) 1024)))] rfl (by (try simp only [List.map_toArray, List.map_cons, List.map_nil]); first | done | rfl | (simp only [List.length_drop, List.length_take]; rfl)) ?_; (with_reducible refine (utf_Pair.calls (wrap32 (55296 + (wrap32 (Int.tdiv (wrap32 (a2 - 65536)) 1024)))) (wrap32 (56320 + (Int.tmod (wrap32 (a2 - 65536)) 1024))) t171 true _ A135.out).mono ?_); rintro e w' ⟨rfl, ⟨nd, rfl⟩⟩; refine ⟨_, rfl, ?_⟩) | (go_at_call 9; (with_reducible refine (larumlaw02_awake.calls k  t173 _ A138.out).mono ?_); rintro e w139 ⟨rfl, hb⟩; have n0_ := Aside0.mk (below_step (by repeat (first | (with_reducible first | exact HB.out | apply below_alloc | apply pw_below_drewN | apply below_drew1) | exact HB.out)) hb); clear HB; have HB := n0_; clear n0_; (try clear hb); (try clear hb2); (try clear hk); (try clear hi)))
                    go_ret
                    exact ⟨by first | rfl | (simp [errW_none, errW_some] <;> rfl) | (simp [*, errW_none, errW_some] <;> rfl), by repeat (first | (with_reducible first | exact HB.out | apply below_alloc | apply pw_below_drewN | apply below_drew1) | exact HB.out)⟩
                  · rw [if_neg c137] at H
                    have c137b0 : (t171 == a2) = false := beq_eq_false_iff_ne.mpr c137
                    have c137b1 : (t171 != a2) = true := bne_iff_ne.mpr c137
                    obtain rfl := Option.some.inj H
                    go_enter Try.func4, Try.ntmps4
                    go_wp2_with (first | ((with_reducible refine gate_callee (f := 10) rfl ?_); refine goesL_ (some 16) rfl rfl Try.func10 (by kernel_rfl) rfl #[.int .i32 a0, .int .i32 a1] rfl (by (try simp only [List.map_toArray, List.map_cons, List.map_nil]); first | done | rfl | (simp only [List.length_drop, List.length_take]; rfl)) ?_; (with_reducible refine (utf_Pair.calls a0 a1 t122 false _ A4.out).mono ?_); rintro e w' ⟨rfl, ⟨nd, rfl⟩⟩; refine ⟨_, rfl, ?_⟩) | ((with_reducible refine gate_callee (f := 10) rfl ?_); refine goesL_ (some 76) rfl rfl Try.func10 (by kernel_rfl) rfl #[.int .i32 (wrap32 (55296 + (wrap32 (Int.tdiv (wrap32 (a2 - 65536)) 1024)))), .int .i32 (wrap32 (56320 + (Int.tmod (wrap32 (a2 - 65536)) 1024)))] rfl (by (try simp only [List.map_toArray, List.map_cons, List.map_nil]); first | done | rfl | (simp only [List.length_drop, List.length_take]; rfl)) ?_; (with_reducible refine (utf_Pair.calls (wrap32 (55296 + (wrap32 (Int.tdiv (wrap32 (a2 - 65536)) 1024)))) (wrap32 (56320 + (Int.tmod (wrap32 (a2 - 65536)) 1024))) t171 true _ A135.out).mono ?_); rintro e w' ⟨rfl, ⟨nd, rfl⟩⟩; refine ⟨_, rfl, ?_⟩))
                    go_ret
                    exact ⟨by first | rfl | (simp [errW_none, errW_some] <;> rfl) | (simp [*, errW_none, errW_some] <;> rfl), by repeat (first | (with_reducible first | exact HB.out | apply below_alloc | apply pw_below_drewN | apply below_drew1) | exact HB.out)⟩
                · replace c136 := Bool.eq_false_iff.mpr c136
                  subst c136
                  have H1 : (some false) = some r := by rw [if_neg (show ¬ (false = true) by decide)] at H; exact H
                  clear H
                  have H := H1
                  clear H1
                  obtain rfl := Option.some.inj H
                  go_enter Try.func4, Try.ntmps4
                  go_wp2_with (first | ((with_reducible refine gate_callee (f := 10) rfl ?_); refine goesL_ (some 16) rfl rfl Try.func10 (by kernel_rfl) rfl #[.int .i32 a0, .int .i32 a1] rfl (by (try simp only [List.map_toArray, List.map_cons, List.map_nil]); first | done | rfl | (simp only [List.length_drop, List.length_take]; rfl)) ?_; (with_reducible refine (utf_Pair.calls a0 a1 t122 false _ A4.out).mono ?_); rintro e w' ⟨rfl, ⟨nd, rfl⟩⟩; refine ⟨_, rfl, ?_⟩) | ((with_reducible refine gate_callee (f := 10) rfl ?_); refine goesL_ (some 76) rfl rfl Try.func10 (by kernel_rfl) rfl #[.int .i32 (wrap32 (55296 + (wrap32 (Int.tdiv (wrap32 (a2 - 65536)) 1024)))), .int .i32 (wrap32 (56320 + (Int.tmod (wrap32 (a2 - 65536)) 1024)))] rfl (by (try simp only [List.map_toArray, List.map_cons, List.map_nil]); first | done | rfl | (simp only [List.length_drop, List.length_take]; rfl)) ?_; (with_reducible refine (utf_Pair.calls (wrap32 (55296 + (wrap32 (Int.tdiv (wrap32 (a2 - 65536)) 1024)))) (wrap32 (56320 + (Int.tmod (wrap32 (a2 - 65536)) 1024))) t171 false _ A135.out).mono ?_); rintro e w' ⟨rfl, ⟨nd, rfl⟩⟩; refine ⟨_, rfl, ?_⟩))
                  go_ret
                  exact ⟨by first | rfl | (simp [errW_none, errW_some] <;> rfl) | (simp [*, errW_none, errW_some] <;> rfl), by repeat (first | (with_reducible first | exact HB.out | apply below_alloc | apply pw_below_drewN | apply below_drew1) | exact HB.out)⟩
          · rw [if_neg c128] at H
            have c128b0 : (t122 == 0) = false := beq_eq_false_iff_ne.mpr c128
            have c128b1 : (t122 != 0) = true := bne_iff_ne.mpr c128
            obtain rfl := Option.some.inj H
            go_enter Try.func4, Try.ntmps4
            go_wp2_with (first | ((with_reducible refine gate_callee (f := 10) rfl ?_); refine goesL_ (some 16) rfl rfl Try.func10 (by kernel_rfl) rfl #[.int .i32 a0, .int .i32 a1] rfl (by (try simp only [List.map_toArray, List.map_cons, List.map_nil]); first | done | rfl | (simp only [List.length_drop, List.length_take]; rfl)) ?_; (with_reducible refine (utf_Pair.calls a0 a1 t122 false _ A4.out).mono ?_); rintro e w' ⟨rfl, ⟨nd, rfl⟩⟩; refine ⟨_, rfl, ?_⟩))
            go_ret
            exact ⟨by first | rfl | (simp [errW_none, errW_some] <;> rfl) | (simp [*, errW_none, errW_some] <;> rfl), by repeat (first | (with_reducible first | exact HB.out | apply below_alloc | apply pw_below_drewN | apply below_drew1) | exact HB.out)⟩
    · rw [if_neg c113] at H
      have c113b0 : decide (56320 ≤ a1) = false := decide_eq_false c113
      clear c113
      by_cases c140 : (t123 != false) = true
      · rw [if_pos c140] at H
        have c140b0 : (t123 != false) = true := c140
        (try (have c140b1 : decide (t123 = false) = false := by simpa using c140))
        (try (have c140b2 : (t123 == false) = false := by simpa using c140))
        (try (have c140b3 : ¬ (t123 = false) := by simpa using c140))
        clear c140
        obtain rfl := Option.some.inj H
        go_enter Try.func4, Try.ntmps4
        go_wp2_with (first | ((with_reducible refine gate_callee (f := 10) rfl ?_); refine goesL_ (some 16) rfl rfl Try.func10 (by kernel_rfl) rfl #[.int .i32 a0, .int .i32 a1] rfl (by (try simp only [List.map_toArray, List.map_cons, List.map_nil]); first | done | rfl | (simp only [List.length_drop, List.length_take]; rfl)) ?_; (with_reducible refine (utf_Pair.calls a0 a1 t122 t123 _ A4.out).mono ?_); rintro e w' ⟨rfl, ⟨nd, rfl⟩⟩; refine ⟨_, rfl, ?_⟩))
        go_ret
        exact ⟨by first | rfl | (simp [errW_none, errW_some] <;> rfl) | (simp [*, errW_none, errW_some] <;> rfl), by repeat (first | (with_reducible first | exact HB.out | apply below_alloc | apply pw_below_drewN | apply below_drew1) | exact HB.out)⟩
      · rw [if_neg c140] at H
        have c140b0 : (t123 != false) = false := by simpa using c140
        (try (have c140b1 : decide (t123 = false) = true := by simpa using c140))
        (try (have c140b2 : (t123 == false) = true := by simpa using c140))
        clear c140
        by_cases c141 : t123 = true
        · subst c141
          have H1 : (if (wrap64 (t122)) = (wrap64 ((wrap64 ((wrap64 (65536 + (wrap64 (1024 * (wrap64 ((wrap64 (a0)) - 55296)))))) + (wrap64 (a1)))) - 56320)) then (if a2 < 65536 then ((larumlaw02_awake.f k).bind fun t174 => (some t174)) else (if a2 > 1114111 then ((larumlaw02_awake.f k).bind fun t175 => (some t175)) else ((utf_Pair.f (wrap32 (55296 + (wrap32 (Int.tdiv (wrap32 (a2 - 65536)) 1024)))) (wrap32 (56320 + (Int.tmod (wrap32 (a2 - 65536)) 1024)))).bind fun bt176 => (if bt176.2 = true then (if bt176.1 = a2 then ((larumlaw02_awake.f k).bind fun t178 => (some t178)) else (some false)) else (some false))))) else (some false)) = some r := by rw [if_pos rfl] at H; exact H
          clear H
          have H := H1
          clear H1
          by_cases c142 : (wrap64 (t122)) = (wrap64 ((wrap64 ((wrap64 (65536 + (wrap64 (1024 * (wrap64 ((wrap64 (a0)) - 55296)))))) + (wrap64 (a1)))) - 56320))
          · rw [if_pos c142] at H
            have c142b0 : ((wrap64 (t122)) == (wrap64 ((wrap64 ((wrap64 (65536 + (wrap64 (1024 * (wrap64 ((wrap64 (a0)) - 55296)))))) + (wrap64 (a1)))) - 56320))) = true := beq_iff_eq.mpr c142
            have c142b1 : ((wrap64 (t122)) != (wrap64 ((wrap64 ((wrap64 (65536 + (wrap64 (1024 * (wrap64 ((wrap64 (a0)) - 55296)))))) + (wrap64 (a1)))) - 56320))) = false := bne_eq_false_iff_eq.mpr c142
            clear c142
            by_cases c143 : a2 < 65536
            · rw [if_pos c143] at H
              have c143b0 : decide (a2 < 65536) = true := decide_eq_true c143
              clear c143
              replace H := Option.bind_eq_some_iff.mp H
              obtain ⟨t174, A1440, H⟩ := H
              replace H : (some t174) = some r := H
              have A144 := Aside0.mk A1440
              clear A1440
              obtain rfl := Option.some.inj H
              go_enter Try.func4, Try.ntmps4
              go_wp2_with (first | ((with_reducible refine gate_callee (f := 10) rfl ?_); refine goesL_ (some 16) rfl rfl Try.func10 (by kernel_rfl) rfl #[.int .i32 a0, .int .i32 a1] rfl (by (try simp only [List.map_toArray, List.map_cons, List.map_nil]); first | done | rfl | (simp only [List.length_drop, List.length_take]; rfl)) ?_; (with_reducible refine (utf_Pair.calls a0 a1 t122 true _ A4.out).mono ?_); rintro e w' ⟨rfl, ⟨nd, rfl⟩⟩; refine ⟨_, rfl, ?_⟩) | ((with_reducible refine gate_callee (f := 9) rfl ?_); refine goesL_ (some 66) rfl rfl Try.func9 (by kernel_rfl) rfl #[] rfl (by (try simp only [List.map_toArray, List.map_cons, List.map_nil]); first | done | rfl | (simp only [List.length_drop, List.length_take]; rfl)) ?_; (with_reducible refine (larumlaw02_awake.calls k  t174 _ A144.out).mono ?_); rintro e w145 ⟨rfl, hb⟩; refine ⟨_, rfl, ?_⟩; have n0_ := Aside0.mk (below_step (by repeat (first | (with_reducible first | exact HB.out | apply below_alloc | apply pw_below_drewN | apply below_drew1) | exact HB.out)) hb); clear HB; have HB := n0_; clear n0_; (try clear hb); (try clear hb2); (try clear hk); (try clear hi)))
              go_ret
              exact ⟨by first | rfl | (simp [errW_none, errW_some] <;> rfl) | (simp [*, errW_none, errW_some] <;> rfl), by repeat (first | (with_reducible first | exact HB.out | apply below_alloc | apply pw_below_drewN | apply below_drew1) | exact HB.out)⟩
            · rw [if_neg c143] at H
              have c143b0 : decide (a2 < 65536) = false := decide_eq_false c143
              clear c143
              by_cases c146 : a2 > 1114111
              · rw [if_pos c146] at H
                have c146b0 : decide (1114111 < a2) = true := decide_eq_true c146
                clear c146
                replace H := Option.bind_eq_some_iff.mp H
                obtain ⟨t175, A1470, H⟩ := H
                replace H : (some t175) = some r := H
                have A147 := Aside0.mk A1470
                clear A1470
                obtain rfl := Option.some.inj H
                go_enter Try.func4, Try.ntmps4
                go_wp2_with (first | ((with_reducible refine gate_callee (f := 10) rfl ?_); refine goesL_ (some 16) rfl rfl Try.func10 (by kernel_rfl) rfl #[.int .i32 a0, .int .i32 a1] rfl (by (try simp only [List.map_toArray, List.map_cons, List.map_nil]); first | done | rfl | (simp only [List.length_drop, List.length_take]; rfl)) ?_; (with_reducible refine (utf_Pair.calls a0 a1 t122 true _ A4.out).mono ?_); rintro e w' ⟨rfl, ⟨nd, rfl⟩⟩; refine ⟨_, rfl, ?_⟩) | ((with_reducible refine gate_callee (f := 9) rfl ?_); refine goesL_ (some 66) rfl rfl Try.func9 (by kernel_rfl) rfl #[] rfl (by (try simp only [List.map_toArray, List.map_cons, List.map_nil]); first | done | rfl | (simp only [List.length_drop, List.length_take]; rfl)) ?_; (with_reducible refine (larumlaw02_awake.calls k  t175 _ A147.out).mono ?_); rintro e w148 ⟨rfl, hb⟩; refine ⟨_, rfl, ?_⟩; have n0_ := Aside0.mk (below_step (by repeat (first | (with_reducible first | exact HB.out | apply below_alloc | apply pw_below_drewN | apply below_drew1) | exact HB.out)) hb); clear HB; have HB := n0_; clear n0_; (try clear hb); (try clear hb2); (try clear hk); (try clear hi)))
                go_ret
                exact ⟨by first | rfl | (simp [errW_none, errW_some] <;> rfl) | (simp [*, errW_none, errW_some] <;> rfl), by repeat (first | (with_reducible first | exact HB.out | apply below_alloc | apply pw_below_drewN | apply below_drew1) | exact HB.out)⟩
              · rw [if_neg c146] at H
                have c146b0 : decide (1114111 < a2) = false := decide_eq_false c146
                clear c146
                replace H := Option.bind_eq_some_iff.mp H
                obtain ⟨⟨t176, t177⟩, A1490, H⟩ := H
                replace H : (if t177 = true then (if t176 = a2 then ((larumlaw02_awake.f k).bind fun t178 => (some t178)) else (some false)) else (some false)) = some r := H
                have A149 := Aside0.mk A1490
                clear A1490
                by_cases c150 : t177 = true
                · subst c150
                  have H1 : (if t176 = a2 then ((larumlaw02_awake.f k).bind fun t178 => (some t178)) else (some false)) = some r := by rw [if_pos rfl] at H; exact H
                  clear H
                  have H := H1
                  clear H1
                  by_cases c151 : t176 = a2
                  · rw [if_pos c151] at H
                    have c151b0 : (t176 == a2) = true := beq_iff_eq.mpr c151
                    have c151b1 : (t176 != a2) = false := bne_eq_false_iff_eq.mpr c151
                    clear c151
                    replace H := Option.bind_eq_some_iff.mp H
                    obtain ⟨t178, A1520, H⟩ := H
                    replace H : (some t178) = some r := H
                    have A152 := Aside0.mk A1520
                    clear A1520
                    obtain rfl := Option.some.inj H
                    go_enter Try.func4, Try.ntmps4
                    go_wp2_with (first | ((with_reducible refine gate_callee (f := 10) rfl ?_); refine goesL_ (some 16) rfl rfl Try.func10 (by kernel_rfl) rfl #[.int .i32 a0, .int .i32 a1] rfl (by (try simp only [List.map_toArray, List.map_cons, List.map_nil]); first | done | rfl | (simp only [List.length_drop, List.length_take]; rfl)) ?_; (with_reducible refine (utf_Pair.calls a0 a1 t122 true _ A4.out).mono ?_); rintro e w' ⟨rfl, ⟨nd, rfl⟩⟩; refine ⟨_, rfl, ?_⟩) | ((with_reducible refine gate_callee (f := 10) rfl ?_); refine goesL_ (some 76) rfl rfl Try.func10 (by kernel_rfl) rfl #[.int .i32 (wrap32 (55296 + (wrap32 (Int.tdiv (wrap32 (a2 - 65536)) 1024)))), .int .i32 (wrap32 (56320 + (Int.tmod (wrap32 (a2 - 65536)) 1024)))] rfl (by (try simp only [List.map_toArray, List.map_cons, List.map_nil]); first | done | rfl | (simp only [List.length_drop, List.length_take]; rfl)) ?_; (with_reducible refine (utf_Pair.calls (wrap32 (55296 + (wrap32 (Int.tdiv (wrap32 (a2 - 65536)) 1024)))) (wrap32 (56320 + (Int.tmod (wrap32 (a2 - 65536)) 1024))) t176 true _ A149.out).mono ?_); rintro e w' ⟨rfl, ⟨nd, rfl⟩⟩; refine ⟨_, rfl, ?_⟩) | (go_at_call 9; (with_reducible refine (larumlaw02_awake.calls k  t178 _ A152.out).mono ?_); rintro e w153 ⟨rfl, hb⟩; have n0_ := Aside0.mk (below_step (by repeat (first | (with_reducible first | exact HB.out | apply below_alloc | apply pw_below_drewN | apply below_drew1) | exact HB.out)) hb); clear HB; have HB := n0_; clear n0_; (try clear hb); (try clear hb2); (try clear hk); (try clear hi)))
                    go_ret
                    exact ⟨by first | rfl | (simp [errW_none, errW_some] <;> rfl) | (simp [*, errW_none, errW_some] <;> rfl), by repeat (first | (with_reducible first | exact HB.out | apply below_alloc | apply pw_below_drewN | apply below_drew1) | exact HB.out)⟩
                  · rw [if_neg c151] at H
                    have c151b0 : (t176 == a2) = false := beq_eq_false_iff_ne.mpr c151
                    have c151b1 : (t176 != a2) = true := bne_iff_ne.mpr c151
                    obtain rfl := Option.some.inj H
                    go_enter Try.func4, Try.ntmps4
                    go_wp2_with (first | ((with_reducible refine gate_callee (f := 10) rfl ?_); refine goesL_ (some 16) rfl rfl Try.func10 (by kernel_rfl) rfl #[.int .i32 a0, .int .i32 a1] rfl (by (try simp only [List.map_toArray, List.map_cons, List.map_nil]); first | done | rfl | (simp only [List.length_drop, List.length_take]; rfl)) ?_; (with_reducible refine (utf_Pair.calls a0 a1 t122 true _ A4.out).mono ?_); rintro e w' ⟨rfl, ⟨nd, rfl⟩⟩; refine ⟨_, rfl, ?_⟩) | ((with_reducible refine gate_callee (f := 10) rfl ?_); refine goesL_ (some 76) rfl rfl Try.func10 (by kernel_rfl) rfl #[.int .i32 (wrap32 (55296 + (wrap32 (Int.tdiv (wrap32 (a2 - 65536)) 1024)))), .int .i32 (wrap32 (56320 + (Int.tmod (wrap32 (a2 - 65536)) 1024)))] rfl (by (try simp only [List.map_toArray, List.map_cons, List.map_nil]); first | done | rfl | (simp only [List.length_drop, List.length_take]; rfl)) ?_; (with_reducible refine (utf_Pair.calls (wrap32 (55296 + (wrap32 (Int.tdiv (wrap32 (a2 - 65536)) 1024)))) (wrap32 (56320 + (Int.tmod (wrap32 (a2 - 65536)) 1024))) t176 true _ A149.out).mono ?_); rintro e w' ⟨rfl, ⟨nd, rfl⟩⟩; refine ⟨_, rfl, ?_⟩))
                    go_ret
                    exact ⟨by first | rfl | (simp [errW_none, errW_some] <;> rfl) | (simp [*, errW_none, errW_some] <;> rfl), by repeat (first | (with_reducible first | exact HB.out | apply below_alloc | apply pw_below_drewN | apply below_drew1) | exact HB.out)⟩
                · replace c150 := Bool.eq_false_iff.mpr c150
                  subst c150
                  have H1 : (some false) = some r := by rw [if_neg (show ¬ (false = true) by decide)] at H; exact H
                  clear H
                  have H := H1
                  clear H1
                  obtain rfl := Option.some.inj H
                  go_enter Try.func4, Try.ntmps4
                  go_wp2_with (first | ((with_reducible refine gate_callee (f := 10) rfl ?_); refine goesL_ (some 16) rfl rfl Try.func10 (by kernel_rfl) rfl #[.int .i32 a0, .int .i32 a1] rfl (by (try simp only [List.map_toArray, List.map_cons, List.map_nil]); first | done | rfl | (simp only [List.length_drop, List.length_take]; rfl)) ?_; (with_reducible refine (utf_Pair.calls a0 a1 t122 true _ A4.out).mono ?_); rintro e w' ⟨rfl, ⟨nd, rfl⟩⟩; refine ⟨_, rfl, ?_⟩) | ((with_reducible refine gate_callee (f := 10) rfl ?_); refine goesL_ (some 76) rfl rfl Try.func10 (by kernel_rfl) rfl #[.int .i32 (wrap32 (55296 + (wrap32 (Int.tdiv (wrap32 (a2 - 65536)) 1024)))), .int .i32 (wrap32 (56320 + (Int.tmod (wrap32 (a2 - 65536)) 1024)))] rfl (by (try simp only [List.map_toArray, List.map_cons, List.map_nil]); first | done | rfl | (simp only [List.length_drop, List.length_take]; rfl)) ?_; (with_reducible refine (utf_Pair.calls (wrap32 (55296 + (wrap32 (Int.tdiv (wrap32 (a2 - 65536)) 1024)))) (wrap32 (56320 + (Int.tmod (wrap32 (a2 - 65536)) 1024))) t176 false _ A149.out).mono ?_); rintro e w' ⟨rfl, ⟨nd, rfl⟩⟩; refine ⟨_, rfl, ?_⟩))
                  go_ret
                  exact ⟨by first | rfl | (simp [errW_none, errW_some] <;> rfl) | (simp [*, errW_none, errW_some] <;> rfl), by repeat (first | (with_reducible first | exact HB.out | apply below_alloc | apply pw_below_drewN | apply below_drew1) | exact HB.out)⟩
          · rw [if_neg c142] at H
            have c142b0 : ((wrap64 (t122)) == (wrap64 ((wrap64 ((wrap64 (65536 + (wrap64 (1024 * (wrap64 ((wrap64 (a0)) - 55296)))))) + (wrap64 (a1)))) - 56320))) = false := beq_eq_false_iff_ne.mpr c142
            have c142b1 : ((wrap64 (t122)) != (wrap64 ((wrap64 ((wrap64 (65536 + (wrap64 (1024 * (wrap64 ((wrap64 (a0)) - 55296)))))) + (wrap64 (a1)))) - 56320))) = true := bne_iff_ne.mpr c142
            obtain rfl := Option.some.inj H
            go_enter Try.func4, Try.ntmps4
            go_wp2_with (first | ((with_reducible refine gate_callee (f := 10) rfl ?_); refine goesL_ (some 16) rfl rfl Try.func10 (by kernel_rfl) rfl #[.int .i32 a0, .int .i32 a1] rfl (by (try simp only [List.map_toArray, List.map_cons, List.map_nil]); first | done | rfl | (simp only [List.length_drop, List.length_take]; rfl)) ?_; (with_reducible refine (utf_Pair.calls a0 a1 t122 true _ A4.out).mono ?_); rintro e w' ⟨rfl, ⟨nd, rfl⟩⟩; refine ⟨_, rfl, ?_⟩))
            go_ret
            exact ⟨by first | rfl | (simp [errW_none, errW_some] <;> rfl) | (simp [*, errW_none, errW_some] <;> rfl), by repeat (first | (with_reducible first | exact HB.out | apply below_alloc | apply pw_below_drewN | apply below_drew1) | exact HB.out)⟩
        · replace c141 := Bool.eq_false_iff.mpr c141
          subst c141
          have H1 : (if t122 = 0 then (if a2 < 65536 then ((larumlaw02_awake.f k).bind fun t179 => (some t179)) else (if a2 > 1114111 then ((larumlaw02_awake.f k).bind fun t180 => (some t180)) else ((utf_Pair.f (wrap32 (55296 + (wrap32 (Int.tdiv (wrap32 (a2 - 65536)) 1024)))) (wrap32 (56320 + (Int.tmod (wrap32 (a2 - 65536)) 1024)))).bind fun bt181 => (if bt181.2 = true then (if bt181.1 = a2 then ((larumlaw02_awake.f k).bind fun t183 => (some t183)) else (some false)) else (some false))))) else (some false)) = some r := by rw [if_neg (show ¬ (false = true) by decide)] at H; exact H
          clear H
          have H := H1
          clear H1
          by_cases c154 : t122 = 0
          · rw [if_pos c154] at H
            have c154b0 : (t122 == 0) = true := beq_iff_eq.mpr c154
            have c154b1 : (t122 != 0) = false := bne_eq_false_iff_eq.mpr c154
            clear c154
            by_cases c155 : a2 < 65536
            · rw [if_pos c155] at H
              have c155b0 : decide (a2 < 65536) = true := decide_eq_true c155
              clear c155
              replace H := Option.bind_eq_some_iff.mp H
              obtain ⟨t179, A1560, H⟩ := H
              replace H : (some t179) = some r := H
              have A156 := Aside0.mk A1560
              clear A1560
              obtain rfl := Option.some.inj H
              go_enter Try.func4, Try.ntmps4
              go_wp2_with (first | ((with_reducible refine gate_callee (f := 10) rfl ?_); refine goesL_ (some 16) rfl rfl Try.func10 (by kernel_rfl) rfl #[.int .i32 a0, .int .i32 a1] rfl (by (try simp only [List.map_toArray, List.map_cons, List.map_nil]); first | done | rfl | (simp only [List.length_drop, List.length_take]; rfl)) ?_; (with_reducible refine (utf_Pair.calls a0 a1 t122 false _ A4.out).mono ?_); rintro e w' ⟨rfl, ⟨nd, rfl⟩⟩; refine ⟨_, rfl, ?_⟩) | ((with_reducible refine gate_callee (f := 9) rfl ?_); refine goesL_ (some 66) rfl rfl Try.func9 (by kernel_rfl) rfl #[] rfl (by (try simp only [List.map_toArray, List.map_cons, List.map_nil]); first | done | rfl | (simp only [List.length_drop, List.length_take]; rfl)) ?_; (with_reducible refine (larumlaw02_awake.calls k  t179 _ A156.out).mono ?_); rintro e w157 ⟨rfl, hb⟩; refine ⟨_, rfl, ?_⟩; have n0_ := Aside0.mk (below_step (by repeat (first | (with_reducible first | exact HB.out | apply below_alloc | apply pw_below_drewN | apply below_drew1) | exact HB.out)) hb); clear HB; have HB := n0_; clear n0_; (try clear hb); (try clear hb2); (try clear hk); (try clear hi)))
              go_ret
              exact ⟨by first | rfl | (simp [errW_none, errW_some] <;> rfl) | (simp [*, errW_none, errW_some] <;> rfl), by repeat (first | (with_reducible first | exact HB.out | apply below_alloc | apply pw_below_drewN | apply below_drew1) | exact HB.out)⟩
            · rw [if_neg c155] at H
              have c155b0 : decide (a2 < 65536) = false := decide_eq_false c155
              clear c155
              by_cases c158 : a2 > 1114111
              · rw [if_pos c158] at H
                have c158b0 : decide (1114111 < a2) = true := decide_eq_true c158
                clear c158
                replace H := Option.bind_eq_some_iff.mp H
                obtain ⟨t180, A1590, H⟩ := H
                replace H : (some t180) = some r := H
                have A159 := Aside0.mk A1590
                clear A1590
                obtain rfl := Option.some.inj H
                go_enter Try.func4, Try.ntmps4
                go_wp2_with (first | ((with_reducible refine gate_callee (f := 10) rfl ?_); refine goesL_ (some 16) rfl rfl Try.func10 (by kernel_rfl) rfl #[.int .i32 a0, .int .i32 a1] rfl (by (try simp only [List.map_toArray, List.map_cons, List.map_nil]); first | done | rfl | (simp only [List.length_drop, List.length_take]; rfl)) ?_; (with_reducible refine (utf_Pair.calls a0 a1 t122 false _ A4.out).mono ?_); rintro e w' ⟨rfl, ⟨nd, rfl⟩⟩; refine ⟨_, rfl, ?_⟩) | ((with_reducible refine gate_callee (f := 9) rfl ?_); refine goesL_ (some 66) rfl rfl Try.func9 (by kernel_rfl) rfl #[] rfl (by (try simp only [List.map_toArray, List.map_cons, List.map_nil]); first | done | rfl | (simp only [List.length_drop, List.length_take]; rfl)) ?_; (with_reducible refine (larumlaw02_awake.calls k  t180 _ A159.out).mono ?_); rintro e w160 ⟨rfl, hb⟩; refine ⟨_, rfl, ?_⟩; have n0_ := Aside0.mk (below_step (by repeat (first | (with_reducible first | exact HB.out | apply below_alloc | apply pw_below_drewN | apply below_drew1) | exact HB.out)) hb); clear HB; have HB := n0_; clear n0_; (try clear hb); (try clear hb2); (try clear hk); (try clear hi)))
                go_ret
                exact ⟨by first | rfl | (simp [errW_none, errW_some] <;> rfl) | (simp [*, errW_none, errW_some] <;> rfl), by repeat (first | (with_reducible first | exact HB.out | apply below_alloc | apply pw_below_drewN | apply below_drew1) | exact HB.out)⟩
              · rw [if_neg c158] at H
                have c158b0 : decide (1114111 < a2) = false := decide_eq_false c158
                clear c158
                replace H := Option.bind_eq_some_iff.mp H
                obtain ⟨⟨t181, t182⟩, A1610, H⟩ := H
                replace H : (if t182 = true then (if t181 = a2 then ((larumlaw02_awake.f k).bind fun t183 => (some t183)) else (some false)) else (some false)) = some r := H
                have A161 := Aside0.mk A1610
                clear A1610
                by_cases c162 : t182 = true
                · subst c162
                  have H1 : (if t181 = a2 then ((larumlaw02_awake.f k).bind fun t183 => (some t183)) else (some false)) = some r := by rw [if_pos rfl] at H; exact H
                  clear H
                  have H := H1
                  clear H1
                  by_cases c163 : t181 = a2
                  · rw [if_pos c163] at H
                    have c163b0 : (t181 == a2) = true := beq_iff_eq.mpr c163
                    have c163b1 : (t181 != a2) = false := bne_eq_false_iff_eq.mpr c163
                    clear c163
                    replace H := Option.bind_eq_some_iff.mp H
                    obtain ⟨t183, A1640, H⟩ := H
                    replace H : (some t183) = some r := H
                    have A164 := Aside0.mk A1640
                    clear A1640
                    obtain rfl := Option.some.inj H
                    go_enter Try.func4, Try.ntmps4
                    go_wp2_with (first | ((with_reducible refine gate_callee (f := 10) rfl ?_); refine goesL_ (some 16) rfl rfl Try.func10 (by kernel_rfl) rfl #[.int .i32 a0, .int .i32 a1] rfl (by (try simp only [List.map_toArray, List.map_cons, List.map_nil]); first | done | rfl | (simp only [List.length_drop, List.length_take]; rfl)) ?_; (with_reducible refine (utf_Pair.calls a0 a1 t122 false _ A4.out).mono ?_); rintro e w' ⟨rfl, ⟨nd, rfl⟩⟩; refine ⟨_, rfl, ?_⟩) | ((with_reducible refine gate_callee (f := 10) rfl ?_); refine goesL_ (some 76) rfl rfl Try.func10 (by kernel_rfl) rfl #[.int .i32 (wrap32 (55296 + (wrap32 (Int.tdiv (wrap32 (a2 - 65536)) 1024)))), .int .i32 (wrap32 (56320 + (Int.tmod (wrap32 (a2 - 65536)) 1024)))] rfl (by (try simp only [List.map_toArray, List.map_cons, List.map_nil]); first | done | rfl | (simp only [List.length_drop, List.length_take]; rfl)) ?_; (with_reducible refine (utf_Pair.calls (wrap32 (55296 + (wrap32 (Int.tdiv (wrap32 (a2 - 65536)) 1024)))) (wrap32 (56320 + (Int.tmod (wrap32 (a2 - 65536)) 1024))) t181 true _ A161.out).mono ?_); rintro e w' ⟨rfl, ⟨nd, rfl⟩⟩; refine ⟨_, rfl, ?_⟩) | (go_at_call 9; (with_reducible refine (larumlaw02_awake.calls k  t183 _ A164.out).mono ?_); rintro e w165 ⟨rfl, hb⟩; have n0_ := Aside0.mk (below_step (by repeat (first | (with_reducible first | exact HB.out | apply below_alloc | apply pw_below_drewN | apply below_drew1) | exact HB.out)) hb); clear HB; have HB := n0_; clear n0_; (try clear hb); (try clear hb2); (try clear hk); (try clear hi)))
                    go_ret
                    exact ⟨by first | rfl | (simp [errW_none, errW_some] <;> rfl) | (simp [*, errW_none, errW_some] <;> rfl), by repeat (first | (with_reducible first | exact HB.out | apply below_alloc | apply pw_below_drewN | apply below_drew1) | exact HB.out)⟩
                  · rw [if_neg c163] at H
                    have c163b0 : (t181 == a2) = false := beq_eq_false_iff_ne.mpr c163
                    have c163b1 : (t181 != a2) = true := bne_iff_ne.mpr c163
                    obtain rfl := Option.some.inj H
                    go_enter Try.func4, Try.ntmps4
                    go_wp2_with (first | ((with_reducible refine gate_callee (f := 10) rfl ?_); refine goesL_ (some 16) rfl rfl Try.func10 (by kernel_rfl) rfl #[.int .i32 a0, .int .i32 a1] rfl (by (try simp only [List.map_toArray, List.map_cons, List.map_nil]); first | done | rfl | (simp only [List.length_drop, List.length_take]; rfl)) ?_; (with_reducible refine (utf_Pair.calls a0 a1 t122 false _ A4.out).mono ?_); rintro e w' ⟨rfl, ⟨nd, rfl⟩⟩; refine ⟨_, rfl, ?_⟩) | ((with_reducible refine gate_callee (f := 10) rfl ?_); refine goesL_ (some 76) rfl rfl Try.func10 (by kernel_rfl) rfl #[.int .i32 (wrap32 (55296 + (wrap32 (Int.tdiv (wrap32 (a2 - 65536)) 1024)))), .int .i32 (wrap32 (56320 + (Int.tmod (wrap32 (a2 - 65536)) 1024)))] rfl (by (try simp only [List.map_toArray, List.map_cons, List.map_nil]); first | done | rfl | (simp only [List.length_drop, List.length_take]; rfl)) ?_; (with_reducible refine (utf_Pair.calls (wrap32 (55296 + (wrap32 (Int.tdiv (wrap32 (a2 - 65536)) 1024)))) (wrap32 (56320 + (Int.tmod (wrap32 (a2 - 65536)) 1024))) t181 true _ A161.out).mono ?_); rintro e w' ⟨rfl, ⟨nd, rfl⟩⟩; refine ⟨_, rfl, ?_⟩))
                    go_ret
                    exact ⟨by first | rfl | (simp [errW_none, errW_some] <;> rfl) | (simp [*, errW_none, errW_some] <;> rfl), by repeat (first | (with_reducible first | exact HB.out | apply below_alloc | apply pw_below_drewN | apply below_drew1) | exact HB.out)⟩
                · replace c162 := Bool.eq_false_iff.mpr c162
                  subst c162
                  have H1 : (some false) = some r := by rw [if_neg (show ¬ (false = true) by decide)] at H; exact H
                  clear H
                  have H := H1
                  clear H1
                  obtain rfl := Option.some.inj H
                  go_enter Try.func4, Try.ntmps4
                  go_wp2_with (first | ((with_reducible refine gate_callee (f := 10) rfl ?_); refine goesL_ (some 16) rfl rfl Try.func10 (by kernel_rfl) rfl #[.int .i32 a0, .int .i32 a1] rfl (by (try simp only [List.map_toArray, List.map_cons, List.map_nil]); first | done | rfl | (simp only [List.length_drop, List.length_take]; rfl)) ?_; (with_reducible refine (utf_Pair.calls a0 a1 t122 false _ A4.out).mono ?_); rintro e w' ⟨rfl, ⟨nd, rfl⟩⟩; refine ⟨_, rfl, ?_⟩) | ((with_reducible refine gate_callee (f := 10) rfl ?_); refine goesL_ (some 76) rfl rfl Try.func10 (by kernel_rfl) rfl #[.int .i32 (wrap32 (55296 + (wrap32 (Int.tdiv (wrap32 (a2 - 65536)) 1024)))), .int .i32 (wrap32 (56320 + (Int.tmod (wrap32 (a2 - 65536)) 1024)))] rfl (by (try simp only [List.map_toArray, List.map_cons, List.map_nil]); first | done | rfl | (simp only [List.length_drop, List.length_take]; rfl)) ?_; (with_reducible refine (utf_Pair.calls (wrap32 (55296 + (wrap32 (Int.tdiv (wrap32 (a2 - 65536)) 1024)))) (wrap32 (56320 + (Int.tmod (wrap32 (a2 - 65536)) 1024))) t181 false _ A161.out).mono ?_); rintro e w' ⟨rfl, ⟨nd, rfl⟩⟩; refine ⟨_, rfl, ?_⟩))
                  go_ret
                  exact ⟨by first | rfl | (simp [errW_none, errW_some] <;> rfl) | (simp [*, errW_none, errW_some] <;> rfl), by repeat (first | (with_reducible first | exact HB.out | apply below_alloc | apply pw_below_drewN | apply below_drew1) | exact HB.out)⟩
          · rw [if_neg c154] at H
            have c154b0 : (t122 == 0) = false := beq_eq_false_iff_ne.mpr c154
            have c154b1 : (t122 != 0) = true := bne_iff_ne.mpr c154
            obtain rfl := Option.some.inj H
            go_enter Try.func4, Try.ntmps4
            go_wp2_with (first | ((with_reducible refine gate_callee (f := 10) rfl ?_); refine goesL_ (some 16) rfl rfl Try.func10 (by kernel_rfl) rfl #[.int .i32 a0, .int .i32 a1] rfl (by (try simp only [List.map_toArray, List.map_cons, List.map_nil]); first | done | rfl | (simp only [List.length_drop, List.length_take]; rfl)) ?_; (with_reducible refine (utf_Pair.calls a0 a1 t122 false _ A4.out).mono ?_); rintro e w' ⟨rfl, ⟨nd, rfl⟩⟩; refine ⟨_, rfl, ?_⟩))
            go_ret
            exact ⟨by first | rfl | (simp [errW_none, errW_some] <;> rfl) | (simp [*, errW_none, errW_some] <;> rfl), by repeat (first | (with_reducible first | exact HB.out | apply below_alloc | apply pw_below_drewN | apply below_drew1) | exact HB.out)⟩

/-- THE ONE PURE STATEMENT of larumlaw02_UtfPairs: yours. -/
def larumlaw02_UtfPairs.Pure : Prop := ∀ (a0 : Int) (a1 : Int) (a2 : Int), (Lit.int .i32 a0).wf = true → (Lit.int .i32 a1).wf = true → (Lit.int .i32 a2).wf = true → ∃ k, larumlaw02_UtfPairs.f k a0 a1 a2 = some true
theorem larumlaw02_UtfPairs.walk (P : larumlaw02_UtfPairs.Pure) (a0 : Int) (a1 : Int) (a2 : Int) (w : World) (w0 : (Lit.int .i32 a0).wf = true) (w1 : (Lit.int .i32 a1).wf = true) (w2 : (Lit.int .i32 a2).wf = true) :
    Calls Try.prog 4 #[.int .i32 a0, .int .i32 a1, .int .i32 a2] w fun e w' => e = .returned (.bool true) ∧ Below w.heap.size w w' := by
  obtain ⟨k, h⟩ := P a0 a1 a2 w0 w1 w2
  refine (larumlaw02_UtfPairs.calls k a0 a1 a2 true w h).mono ?_
  rintro e w' ⟨rfl, hd⟩
  exact ⟨rfl, hd⟩

end Go.Proofs.Ytdeggcnccciapaa.PUtfPairs
