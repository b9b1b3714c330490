/- The contracts of valid senders and receivers of files, for their Lean types, both sides. No condition but on sizes. -/
import Derived.Test.YtbaffippdifbpaaGreatMOkR
import Derived.Test.YtbaffippdifbpaaGreatMM13
namespace Go.Proofs.YtbaffippdifbpaaGreat
set_option linter.unusedVariables false
open Go.ChangeShapes Go.WideShapes Go.ChangeAt Go.RowKit
theorem RdS.slStr{B:Nat}{w:World}{a:Option Addr}{c:Nat}{l:List ByteArray}(h:RdS B w a c l):Sl encStr w a l:=fun i s hx=>by
 obtain⟨b,off,vs,h0,-,h2,h3,h4⟩:=h.2.2.2 i s hx
 exact⟨b,off,h0,h2,fun j v hv=>by
  obtain⟨rfl,-⟩:=h3
  have:=h4 j v hv
  rw[show Enc.size ByteArray=(encStr s).length from rfl]at this
  exact this⟩
def fileOutOkT(f:TFileOut):Bool:=fileOutOk f.File f.Data.size f.Queue
def fileInOkT(f:TFileIn):Bool:=fileInOk f.File f.Size f.Check f.Parts
theorem k_iFileOutOk{B n:Nat}{a:Option Addr}{c:Nat}{f:TFileOut}{w0 w:World}(hs0:RdS B w0 a c f.Queue:=by first|assumption|(apply Sl.to<;>first|assumption|infer_instance)|omega)[g:Keeps B w0 w](hn:f.Queue.length=n:=by first|assumption|(apply Sl.to<;>first|assumption|infer_instance)|omega)(hm:n≤100000000:=by first|assumption|(apply Sl.to<;>first|assumption|infer_instance)|omega)(hz:f.Data.size≤100000000:=by first|assumption|(apply Sl.to<;>first|assumption|infer_instance)|omega) :
  Calls Tryz.prog 238 #[.agg #[.int .i64 f.File,.string f.Data,.slice a n c,.bool f.Done]] w (Gives w (.bool (fileOutOkT f))) :=
 c_iFileOutOk (hs0.to g).toSlInt hn (by omega) hz
theorem k_sFileOutOk{B n:Nat}{a:Option Addr}{c:Nat}{f:TFileOut}{w0 w:World}(hs0:RdS B w0 a c f.Queue:=by first|assumption|(apply Sl.to<;>first|assumption|infer_instance)|omega)[g:Keeps B w0 w](hn:f.Queue.length=n:=by first|assumption|(apply Sl.to<;>first|assumption|infer_instance)|omega)(hm:n≤100000000:=by first|assumption|(apply Sl.to<;>first|assumption|infer_instance)|omega)(hz:f.Data.size≤100000000:=by first|assumption|(apply Sl.to<;>first|assumption|infer_instance)|omega) :
  Calls Tryz.prog 235 #[.agg #[.int .i64 f.File,.string f.Data,.slice a n c,.bool f.Done]] w (Gives w (.bool (fileOutOkT f))) :=
 c_sFileOutOk (hs0.to g).toSlInt hn (by omega) hz
theorem k_iFileInOk{B n:Nat}{a:Option Addr}{c:Nat}{f:TFileIn}{w0 w:World}(hs0:RdS B w0 a c f.Parts:=by first|assumption|(apply Sl.to<;>first|assumption|infer_instance)|omega)[g:Keeps B w0 w](hn:f.Parts.length=n:=by first|assumption|(apply Sl.to<;>first|assumption|infer_instance)|omega)(hm:n≤100000000:=by first|assumption|(apply Sl.to<;>first|assumption|infer_instance)|omega)(hz:∀ s∈f.Parts,s.size≤100000000:=by first|assumption|(apply Sl.to<;>first|assumption|infer_instance)|omega) :
  Calls Tryz.prog 230 #[.agg #[.int .i64 f.File,.int .i64 f.Size,.int .i64 f.Check,.slice a n c]] w (Gives w (.bool (fileInOkT f))) :=
 c_iFileInOk (hs0.to g).slStr hn (by omega) hz
theorem k_sFileInOk{B n:Nat}{a:Option Addr}{c:Nat}{f:TFileIn}{w0 w:World}(hs0:RdS B w0 a c f.Parts:=by first|assumption|(apply Sl.to<;>first|assumption|infer_instance)|omega)[g:Keeps B w0 w](hn:f.Parts.length=n:=by first|assumption|(apply Sl.to<;>first|assumption|infer_instance)|omega)(hm:n≤100000000:=by first|assumption|(apply Sl.to<;>first|assumption|infer_instance)|omega)(hz:∀ s∈f.Parts,s.size≤100000000:=by first|assumption|(apply Sl.to<;>first|assumption|infer_instance)|omega) :
  Calls Tryz.prog 227 #[.agg #[.int .i64 f.File,.int .i64 f.Size,.int .i64 f.Check,.slice a n c]] w (Gives w (.bool (fileInOkT f))) :=
 c_sFileInOk (hs0.to g).slStr hn (by omega) hz
end Go.Proofs.YtbaffippdifbpaaGreat
