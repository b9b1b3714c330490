/- The contracts of the valid parts of a mission, both sides, for their Lean types and for later worlds. No condition but on sizes. -/
import Derived.Test.YtgmikiidcpbjbaaGreatSM21
import Derived.Test.YtgmikiidcpbjbaaGreatSOkL
import Derived.Test.YtgmikiidcpbjbaaGreatSM0
namespace Go.Proofs.YtgmikiidcpbjbaaGreat
set_option linter.unusedVariables false
open Go.ChangeShapes Go.WideShapes Go.ChangeAt Go.RowKit
theorem RdS.toSlPair{B:Nat}{w:World}{a:Option Addr}{c:Nat}{l:List Pair}(h:RdS B w a c l):Sl encPair w a l:=fun i s hx=>by
 obtain⟨b,off,vs,h0,-,h2,h3,h4⟩:=h.2.2.2 i s hx
 exact⟨b,off,h0,h2,fun j v hv=>by
  obtain⟨rfl,-⟩:=h3
  have:=h4 j v hv
  rw[show Enc.size Pair=(encPair s).length from rfl]at this
  exact this⟩
def driftOkT(x:TDrift):Bool:=driftOk x.Rate x.Offset
def orbitOkT(x:TOrbit):Bool:=orbitOk x.Period x.Start x.Length
theorem k_iDriftOk{x:TDrift}{w:World}:Calls Tryz.prog 176 #[.agg #[.int .i64 x.Rate,.int .i64 x.Offset]] w (Gives w (.bool (driftOkT x))):=c_iDriftOk
theorem k_iOrbitOk{x:TOrbit}{w:World}:Calls Tryz.prog 177 #[.agg #[.int .i64 x.Period,.int .i64 x.Start,.int .i64 x.Length]] w (Gives w (.bool (orbitOkT x))):=c_iOrbitOk
theorem k_iPairsOk{B n:Nat}{a:Option Addr}{c:Nat}{l:List Pair}{w0 w:World}(hs0:RdS B w0 a c l:=by first|assumption|(apply Sl.to<;>first|assumption|infer_instance)|omega)[g:Keeps B w0 w](hn:l.length=n:=by first|assumption|(apply Sl.to<;>first|assumption|infer_instance)|omega)(hm:n≤100000000:=by first|assumption|(apply Sl.to<;>first|assumption|infer_instance)|omega) :
  Calls Tryz.prog 343 #[.slice a n c] w (Gives w (.bool (pairsOk l))):=c_iPairsOk (hs0.to g).toSlPair hn (by omega)
theorem k_iflightsOkN{B n:Nat}{a:Option Addr}{c:Nat}{l:List TFlight}{w0 w:World}(hs0:RdS B w0 a c l)[g:Keeps B w0 w](hn:l.length=n)(hm:n≤100000000) :
  Calls Tryz.prog 179 #[.slice a n c] w (Gives w (.bool (flightsOk l))):=by
 subst hn;exact k_iflightsOk (hs0.to g) hm
theorem k_irecordsOkN{B n:Nat}{a:Option Addr}{c:Nat}{l:List TRecord}{w0 w:World}(hs0:RdS B w0 a c l:=by first|assumption|(apply Sl.to<;>first|assumption|infer_instance)|omega)[g:Keeps B w0 w](hn:l.length=n:=by first|assumption|(apply Sl.to<;>first|assumption|infer_instance)|omega)(hm:n≤100000000:=by first|assumption|(apply Sl.to<;>first|assumption|infer_instance)|omega) :
  Calls Tryz.prog 348 #[.slice a n c] w (Gives w (.bool (recordsOk l))):=by
 subst hn;exact k_irecordsOk (hs0.to g) hm
theorem k_iSenderOkN{B n:Nat}{a:Option Addr}{c:Nat}{sd:TSender}{w0 w:World}(hs0:RdS B w0 a c sd.Waiting:=by first|assumption|(apply Sl.to<;>first|assumption|infer_instance)|omega)[g:Keeps B w0 w](hn:sd.Waiting.length=n:=by first|assumption|(apply Sl.to<;>first|assumption|infer_instance)|omega)(hm:n≤100000000:=by first|assumption|(apply Sl.to<;>first|assumption|infer_instance)|omega)(hi:okDTSender sd:=by first|assumption|(apply Sl.to<;>first|assumption|infer_instance)|omega) :
  Calls Tryz.prog 277 #[.agg #[.int .i64 sd.Next,.int .i64 sd.Window,.slice a n c,.int .i64 sd.Done]] w (Gives w (.bool (senderOk sd))):=by
 subst hn;exact k_iSenderOk (hs0.to g) hm hi
theorem k_iPackerOkN{B n:Nat}{a:Option Addr}{c:Nat}{p:TPacker}{w0 w:World}(hs0:RdS B w0 a c p.Starts:=by first|assumption|(apply Sl.to<;>first|assumption|infer_instance)|omega)[g:Keeps B w0 w](hn:p.Starts.length=n:=by first|assumption|(apply Sl.to<;>first|assumption|infer_instance)|omega)(hm:n≤100000000:=by first|assumption|(apply Sl.to<;>first|assumption|infer_instance)|omega)(hz:p.Rest.size≤100000000:=by first|assumption|(apply Sl.to<;>first|assumption|infer_instance)|omega) :
  Calls Tryz.prog 332 #[.agg #[.int .i64 p.Channel,.int .i64 p.Count,.string p.Rest,.slice a n c]] w (Gives w (.bool (packerOk p))):=by
 subst hn;exact k_iPackerOk (hs0.to g) hm hz
theorem k_sDriftOk{x:TDrift}{w:World}:Calls Tryz.prog 159 #[.agg #[.int .i64 x.Rate,.int .i64 x.Offset]] w (Gives w (.bool (driftOkT x))):=c_sDriftOk
theorem k_sOrbitOk{x:TOrbit}{w:World}:Calls Tryz.prog 196 #[.agg #[.int .i64 x.Period,.int .i64 x.Start,.int .i64 x.Length]] w (Gives w (.bool (orbitOkT x))):=c_sOrbitOk
theorem k_sPairsOk{B n:Nat}{a:Option Addr}{c:Nat}{l:List Pair}{w0 w:World}(hs0:RdS B w0 a c l:=by first|assumption|(apply Sl.to<;>first|assumption|infer_instance)|omega)[g:Keeps B w0 w](hn:l.length=n:=by first|assumption|(apply Sl.to<;>first|assumption|infer_instance)|omega)(hm:n≤100000000:=by first|assumption|(apply Sl.to<;>first|assumption|infer_instance)|omega) :
  Calls Tryz.prog 164 #[.slice a n c] w (Gives w (.bool (pairsOk l))):=c_sPairsOk (hs0.to g).toSlPair hn (by omega)
theorem k_sflightsOkN{B n:Nat}{a:Option Addr}{c:Nat}{l:List TFlight}{w0 w:World}(hs0:RdS B w0 a c l)[g:Keeps B w0 w](hn:l.length=n)(hm:n≤100000000) :
  Calls Tryz.prog 198 #[.slice a n c] w (Gives w (.bool (flightsOk l))):=by
 subst hn;exact k_sflightsOk (hs0.to g) hm
theorem k_srecordsOkN{B n:Nat}{a:Option Addr}{c:Nat}{l:List TRecord}{w0 w:World}(hs0:RdS B w0 a c l:=by first|assumption|(apply Sl.to<;>first|assumption|infer_instance)|omega)[g:Keeps B w0 w](hn:l.length=n:=by first|assumption|(apply Sl.to<;>first|assumption|infer_instance)|omega)(hm:n≤100000000:=by first|assumption|(apply Sl.to<;>first|assumption|infer_instance)|omega) :
  Calls Tryz.prog 358 #[.slice a n c] w (Gives w (.bool (recordsOk l))):=by
 subst hn;exact k_srecordsOk (hs0.to g) hm
theorem k_sSenderOkN{B n:Nat}{a:Option Addr}{c:Nat}{sd:TSender}{w0 w:World}(hs0:RdS B w0 a c sd.Waiting:=by first|assumption|(apply Sl.to<;>first|assumption|infer_instance)|omega)[g:Keeps B w0 w](hn:sd.Waiting.length=n:=by first|assumption|(apply Sl.to<;>first|assumption|infer_instance)|omega)(hm:n≤100000000:=by first|assumption|(apply Sl.to<;>first|assumption|infer_instance)|omega)(hi:okDTSender sd:=by first|assumption|(apply Sl.to<;>first|assumption|infer_instance)|omega) :
  Calls Tryz.prog 271 #[.agg #[.int .i64 sd.Next,.int .i64 sd.Window,.slice a n c,.int .i64 sd.Done]] w (Gives w (.bool (senderOk sd))):=by
 subst hn;exact k_sSenderOk (hs0.to g) hm hi
theorem k_sPackerOkN{B n:Nat}{a:Option Addr}{c:Nat}{p:TPacker}{w0 w:World}(hs0:RdS B w0 a c p.Starts:=by first|assumption|(apply Sl.to<;>first|assumption|infer_instance)|omega)[g:Keeps B w0 w](hn:p.Starts.length=n:=by first|assumption|(apply Sl.to<;>first|assumption|infer_instance)|omega)(hm:n≤100000000:=by first|assumption|(apply Sl.to<;>first|assumption|infer_instance)|omega)(hz:p.Rest.size≤100000000:=by first|assumption|(apply Sl.to<;>first|assumption|infer_instance)|omega) :
  Calls Tryz.prog 324 #[.agg #[.int .i64 p.Channel,.int .i64 p.Count,.string p.Rest,.slice a n c]] w (Gives w (.bool (packerOk p))):=by
 subst hn;exact k_sPackerOk (hs0.to g) hm hz
end Go.Proofs.YtgmikiidcpbjbaaGreat
