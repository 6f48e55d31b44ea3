/- DecayRates: for every input. -/
import Derived.Test.YtonbmhdbcbbagaaGreatDoorDecZ
namespace Go.Proofs.YtonbmhdbcbbagaaGreatDoor
open Go.RowKit
theorem rates_row (x : Nm) (t n : Int) (W : World) (h : NmOk W x) (ht : Fits t) (hn : Fits n) (hE : EnvQ W) :
    Calls Tryz.prog 7 #[.agg #[.int .i64 x.f, .int .i64 x.s, x.v, .int .i64 x.m], .int .i64 t, .int .i64 n] W (Rets W (.bool true)) := rates_walk x t n ht hn W hE.env h
end Go.Proofs.YtonbmhdbcbbagaaGreatDoor
