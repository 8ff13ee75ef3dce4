/- Plain definitions for package setup: a configuration, what each field tells, the faults, what is set. -/
import Derived.Test.YthhipnhnpjhaaaaFlP
namespace Go.Proofs.Ythhipnhnpjhaaaa
open Go.RowKit

/-- a configuration: floats by their bits -/
structure Cfg where
  step : Nat
  watch : Nat
  panic : Nat
  maxRate : Nat
  phi : Nat
  maxDist : Nat
  gate : Nat
  minPoll : Int
  maxPoll : Int
  burst : Int
  minSane : Int
  minLeft : Int
structure Cfg.ok (c : Cfg) : Prop where
  step : c.step < 18446744073709551616
  watch : c.watch < 18446744073709551616
  panic : c.panic < 18446744073709551616
  maxRate : c.maxRate < 18446744073709551616
  phi : c.phi < 18446744073709551616
  maxDist : c.maxDist < 18446744073709551616
  gate : c.gate < 18446744073709551616
/-- the value of a configuration -/
def Cfg.cells (c : Cfg) : Array Value := #[.float .f64 c.step, .float .f64 c.watch, .float .f64 c.panic, .float .f64 c.maxRate, .float .f64 c.phi, .float .f64 c.maxDist, .float .f64 c.gate, .int .i64 c.minPoll, .int .i64 c.maxPoll, .int .i64 c.burst, .int .i64 c.minSane, .int .i64 c.minLeft]
/-- what a field tells by itself: what is set, and the error -/
def Cfg.fld (c : Cfg) : Nat → Int × Int
  | 0 => fWithin c.step 4562254508917369340 4621819117588971520
  | 1 => fWithin c.watch 4607182418800017408 4660134898793709568
  | 2 => fWithin c.panic 4607182418800017408 4681608360884174848
  | 3 => fWithin c.maxRate 4517329193108106637 4591870180066957722
  | 4 => fWithin c.phi 0 4576918229304087675
  | 5 => fWithin c.maxDist 4576918229304087675 4625196817309499392
  | 6 => fWithin c.gate 4607182418800017408 4636737291354636288
  | 7 => sWhole c.minPoll 4 17
  | 8 => sWhole c.maxPoll 4 17
  | 9 => sWhole c.burst 0 8
  | 10 => sWhole c.minSane 1 10
  | 11 => sWhole c.minLeft 1 10
  | _ => (0, 0)
/-- the cells of what is set, and of the errors, behind k fields -/
def Cfg.pcs (c : Cfg) (k : Nat) : Array Value := #[.int .i64 (if 0 < k then (c.fld 0).1 else 0), .int .i64 (if 1 < k then (c.fld 1).1 else 0), .int .i64 (if 2 < k then (c.fld 2).1 else 0), .int .i64 (if 3 < k then (c.fld 3).1 else 0), .int .i64 (if 4 < k then (c.fld 4).1 else 0), .int .i64 (if 5 < k then (c.fld 5).1 else 0), .int .i64 (if 6 < k then (c.fld 6).1 else 0), .int .i64 (if 7 < k then (c.fld 7).1 else 0), .int .i64 (if 8 < k then (c.fld 8).1 else 0), .int .i64 (if 9 < k then (c.fld 9).1 else 0), .int .i64 (if 10 < k then (c.fld 10).1 else 0), .int .i64 (if 11 < k then (c.fld 11).1 else 0)]
def Cfg.ecs (c : Cfg) (k : Nat) : Array Value := #[.int .i64 0, .int .i64 (if 0 < k then (c.fld 0).2 else 0), .int .i64 (if 1 < k then (c.fld 1).2 else 0), .int .i64 (if 2 < k then (c.fld 2).2 else 0), .int .i64 (if 3 < k then (c.fld 3).2 else 0), .int .i64 (if 4 < k then (c.fld 4).2 else 0), .int .i64 (if 5 < k then (c.fld 5).2 else 0), .int .i64 (if 6 < k then (c.fld 6).2 else 0), .int .i64 (if 7 < k then (c.fld 7).2 else 0), .int .i64 (if 8 < k then (c.fld 8).2 else 0), .int .i64 (if 9 < k then (c.fld 9).2 else 0), .int .i64 (if 10 < k then (c.fld 10).2 else 0), .int .i64 (if 11 < k then (c.fld 11).2 else 0)]
/-- a float is not above another one -/
def fLe (a b : Nat) : Bool := FloatKind.f64.format.order a b == some Ordering.lt || FloatKind.f64.format.order a b == some Ordering.eq
def Cfg.e3 (c : Cfg) : Int := if ((c.fld 0).2 == 0 && (c.fld 2).2 == 0 && fLe c.panic c.step) = true then 100 else (c.fld 2).2
def Cfg.e9 (c : Cfg) : Int := if ((c.fld 7).2 == 0 && (c.fld 8).2 == 0 && decide (c.maxPoll < c.minPoll)) = true then 100 else (c.fld 8).2
/-- the errors, by the fields' numbers -/
def Cfg.err (c : Cfg) : Nat → Int
  | 1 => (c.fld 0).2
  | 2 => (c.fld 1).2
  | 3 => c.e3
  | 4 => (c.fld 3).2
  | 5 => (c.fld 4).2
  | 6 => (c.fld 5).2
  | 7 => (c.fld 6).2
  | 8 => (c.fld 7).2
  | 9 => c.e9
  | 10 => (c.fld 9).2
  | 11 => (c.fld 10).2
  | 12 => (c.fld 11).2
  | _ => 0
def Cfg.errs (c : Cfg) : Array Value := #[.int .i64 (c.err 0), .int .i64 (c.err 1), .int .i64 (c.err 2), .int .i64 (c.err 3), .int .i64 (c.err 4), .int .i64 (c.err 5), .int .i64 (c.err 6), .int .i64 (c.err 7), .int .i64 (c.err 8), .int .i64 (c.err 9), .int .i64 (c.err 10), .int .i64 (c.err 11), .int .i64 (c.err 12)]
def Cfg.set (c : Cfg) : Array Value := #[.int .i64 (c.fld 0).1, .int .i64 (c.fld 1).1, .int .i64 (c.fld 2).1, .int .i64 (c.fld 3).1, .int .i64 (c.fld 4).1, .int .i64 (c.fld 5).1, .int .i64 (c.fld 6).1, .int .i64 (c.fld 7).1, .int .i64 (c.fld 8).1, .int .i64 (c.fld 9).1, .int .i64 (c.fld 10).1, .int .i64 (c.fld 11).1]
end Go.Proofs.Ythhipnhnpjhaaaa
