/- What marks make of structs with slices, and their bounds. No condition but on sizes and numbers. -/
import Derived.Test.YtgmikiidcpbjbaaGreatSM43
namespace Go.Proofs.YtgmikiidcpbjbaaGreat
set_option linter.unusedVariables false
open Go.ChangeShapes Go.WideShapes Go.ChangeAt Go.RowKit
def Rng(a b:Nat):Col→Prop:=fun i=>a≤i.1∧i.1<b
theorem Rng.out{a b j k:Nat}(h:j<a∨b≤j):¬ Rng a b (j,k):=fun e=>by have h1:a≤j:=e.1;have h2:j<b:=e.2;omega
def Fresh(χ:Nat→Col)(w:World):Prop:=∀ b,w.heap.size≤b→1000≤(χ b).1
theorem Fresh.mono{χ:Nat→Col}{w w':World}(h:Fresh χ w)(g:w.heap.size≤w'.heap.size):Fresh χ w':=fun b hb=>h b (Nat.le_trans g hb)
section
variable {B:Nat} {χ:Nat→Col} {w w1 w2:World} {a b c j:Nat}
theorem Fr.rng0(h:Fr B χ (·=(j,0)) w w1):Fr B χ (Rng j (j+1)) w w1:=h.wide fun i e=>by subst e;exact⟨Nat.le_refl _,Nat.lt_succ_self _⟩
theorem Fr.rngN(h:Fr B χ (fun i=>i.1=j) w w1):Fr B χ (Rng j (j+1)) w w1:=h.wide fun i e=>by subst e;exact⟨Nat.le_refl _,Nat.lt_succ_self _⟩
theorem Fr.tr(h:Fr B χ (Rng a b) w w1)(k:Fr B χ (Rng b c) w1 w2)(h1:a≤b)(h2:b≤c):Fr B χ (Rng a c) w w2 :=
 (h.wide (C':=Rng a c) fun i e=>⟨e.1,Nat.lt_of_lt_of_le e.2 h2⟩).trans (k.wide fun i e=>⟨Nat.le_trans h1 e.1,e.2⟩)
theorem Held.frm{cs:List Value}{T:TypeId}{q:Nat}(h:Held w q cs T)(f:Fr B χ (Rng a b) w w1)(hb:b≤1000)(hq:1000≤(χ q).1):Held w1 q cs T:=by
 unfold Held
 rw[f.block q h.lt (fun e=>by have:=e.2.2;omega)];exact h
end
def Mkd(K:Int)(G H:World→Prop):Ending→World→Prop:=fun e w'=>e=.returned (.int .i64 K)∧G w'∧H w'
theorem o_lmarkFileInX{B o:Nat}{χ:Nat→Col}{a:Option Addr}{c:Nat}{k:Int}{l:List TFileIn}{w:World}(h0:∃ rows:List (NRow TFileIn),rows.map (·.x)=l∧OwnN B χ o w a c rows)(ht:totL l≤100000000)(h1:0≤k)(h2:k≤500000000000) :
  Calls Tryz.prog 251 #[.slice a l.length c,.int .i64 k] w (Mkd (mnN mn1FileIn l k) (fun w'=>∃ rows:List (NRow TFileIn),rows.map (·.x)=mkN mk1FileIn mn1FileIn l k∧OwnN B χ o w' a c rows) (Fr B χ (Rng o (o+1)) w)):=by
 obtain⟨rows,rfl,h⟩:=h0
 have:=o_lmarkFileInS (k0:=k) h ht h1 h2
 rw[show rows.length=(rows.map (·.x)).length by simp]at this
 exact this.mono fun _ _ ⟨r,he,hr,ho,hf⟩=>⟨he,⟨r,hr,ho⟩,hf.rngN⟩
theorem o_lmarkFileOutX{B o:Nat}{χ:Nat→Col}{a:Option Addr}{c:Nat}{k:Int}{l:List TFileOut}{w:World}(h0:∃ rows:List (NRow TFileOut),rows.map (·.x)=l∧OwnN B χ o w a c rows)(ht:totL l≤100000000)(h1:0≤k)(h2:k≤500000000000) :
  Calls Tryz.prog 255 #[.slice a l.length c,.int .i64 k] w (Mkd (mnN mn1FileOut l k) (fun w'=>∃ rows:List (NRow TFileOut),rows.map (·.x)=mkN mk1FileOut mn1FileOut l k∧OwnN B χ o w' a c rows) (Fr B χ (Rng o (o+1)) w)):=by
 obtain⟨rows,rfl,h⟩:=h0
 have:=o_lmarkFileOutS (k0:=k) h ht h1 h2
 rw[show rows.length=(rows.map (·.x)).length by simp]at this
 exact this.mono fun _ _ ⟨r,he,hr,ho,hf⟩=>⟨he,⟨r,hr,ho⟩,hf.rngN⟩
def mnMPacker(x:TPacker)(k:Int):Int:=k+(x.Starts.length:Int)*((1:Nat):Int)
def mkMPacker(x:TPacker)(k:Int):TPacker:={ x with Starts:=mkL x.Starts (k) }
theorem mnMPacker_le(x:TPacker)(k:Int):k≤mnMPacker x k∧mnMPacker x k≤k+5*Enc.tot x:=by
 have t:Enc.tot x=(x.Rest.size:Int)+totL x.Starts:=rfl
 have a0:=totL_len x.Starts
 unfold mnMPacker;omega
def mnMSender(x:TSender)(k:Int):Int:=k+(x.Waiting.length:Int)*((2:Nat):Int)
def mkMSender(x:TSender)(k:Int):TSender:={ x with Waiting:=mkL x.Waiting (k) }
theorem mnMSender_le(x:TSender)(k:Int):k≤mnMSender x k∧mnMSender x k≤k+5*Enc.tot x:=by
 have t:Enc.tot x=totL x.Waiting:=rfl
 have a0:=totL_len x.Waiting
 unfold mnMSender;omega
def mnMRecorder(x:TRecorder)(k:Int):Int:=k+(x.Records.length:Int)*((4:Nat):Int)+(x.Dropped.length:Int)*((1:Nat):Int)
def mkMRecorder(x:TRecorder)(k:Int):TRecorder:={ x with Records:=mkL x.Records (k),Dropped:=mkL x.Dropped (k+(x.Records.length:Int)*((4:Nat):Int)) }
theorem mnMRecorder_le(x:TRecorder)(k:Int):k≤mnMRecorder x k∧mnMRecorder x k≤k+5*Enc.tot x:=by
 have t:Enc.tot x=totL x.Records+totL x.Dropped:=rfl
 have a0:=totL_len x.Records
 have a1:=totL_len x.Dropped
 unfold mnMRecorder;omega
def mnMBoard(x:TBoard)(k:Int):Int:=mnMRecorder x.Recorder (k+(x.Params.length:Int)*((1:Nat):Int)+(x.Limits.length:Int)*((3:Nat):Int)+(x.Orders.length:Int)*((5:Nat):Int)+(x.Done.length:Int)*((3:Nat):Int))+(x.Asked.length:Int)*((1:Nat):Int)
def mkMBoard(x:TBoard)(k:Int):TBoard:={ x with Params:=mkL x.Params (k),Limits:=mkL x.Limits (k+(x.Params.length:Int)*((1:Nat):Int)),Orders:=mkL x.Orders (k+(x.Params.length:Int)*((1:Nat):Int)+(x.Limits.length:Int)*((3:Nat):Int)),Done:=mkL x.Done (k+(x.Params.length:Int)*((1:Nat):Int)+(x.Limits.length:Int)*((3:Nat):Int)+(x.Orders.length:Int)*((5:Nat):Int)),Recorder:=mkMRecorder x.Recorder (k+(x.Params.length:Int)*((1:Nat):Int)+(x.Limits.length:Int)*((3:Nat):Int)+(x.Orders.length:Int)*((5:Nat):Int)+(x.Done.length:Int)*((3:Nat):Int)),Asked:=mkL x.Asked (mnMRecorder x.Recorder (k+(x.Params.length:Int)*((1:Nat):Int)+(x.Limits.length:Int)*((3:Nat):Int)+(x.Orders.length:Int)*((5:Nat):Int)+(x.Done.length:Int)*((3:Nat):Int))) }
theorem mnMBoard_le(x:TBoard)(k:Int):k≤mnMBoard x k∧mnMBoard x k≤k+5*Enc.tot x:=by
 have t:Enc.tot x=totL x.Params+totL x.Limits+totL x.Orders+totL x.Done+Enc.tot x.Recorder+totL x.Asked:=rfl
 have a0:=totL_len x.Params
 have a1:=totL_len x.Limits
 have a2:=totL_len x.Orders
 have a3:=totL_len x.Done
 have a4:=mnMRecorder_le x.Recorder (k+(x.Params.length:Int)*((1:Nat):Int)+(x.Limits.length:Int)*((3:Nat):Int)+(x.Orders.length:Int)*((5:Nat):Int)+(x.Done.length:Int)*((3:Nat):Int))
 have a5:=totL_len x.Asked
 have b6:=Enc.tot_nonneg x.Recorder
 unfold mnMBoard;omega
def mnMGround(x:TGround)(k:Int):Int:=mnN mn1FileIn x.Files (mnMSender x.Sender (k+(x.Offers.length:Int)*((1:Nat):Int))+(x.Pairs.length:Int)*((2:Nat):Int)+(x.Records.length:Int)*((4:Nat):Int))+(x.Told.length:Int)*((1:Nat):Int)
def mkMGround(x:TGround)(k:Int):TGround:={ x with Offers:=mkL x.Offers (k),Sender:=mkMSender x.Sender (k+(x.Offers.length:Int)*((1:Nat):Int)),Pairs:=mkL x.Pairs (mnMSender x.Sender (k+(x.Offers.length:Int)*((1:Nat):Int))),Records:=mkL x.Records (mnMSender x.Sender (k+(x.Offers.length:Int)*((1:Nat):Int))+(x.Pairs.length:Int)*((2:Nat):Int)),Files:=mkN mk1FileIn mn1FileIn x.Files (mnMSender x.Sender (k+(x.Offers.length:Int)*((1:Nat):Int))+(x.Pairs.length:Int)*((2:Nat):Int)+(x.Records.length:Int)*((4:Nat):Int)),Told:=mkL x.Told (mnN mn1FileIn x.Files (mnMSender x.Sender (k+(x.Offers.length:Int)*((1:Nat):Int))+(x.Pairs.length:Int)*((2:Nat):Int)+(x.Records.length:Int)*((4:Nat):Int))) }
theorem mnMGround_le(x:TGround)(k:Int):k≤mnMGround x k∧mnMGround x k≤k+5*Enc.tot x:=by
 have t:Enc.tot x=totL x.Offers+Enc.tot x.Sender+Enc.tot x.Unpacker+totL x.Pairs+totL x.Records+totL x.Files+totL x.Told:=rfl
 have a0:=totL_len x.Offers
 have a1:=mnMSender_le x.Sender (k+(x.Offers.length:Int)*((1:Nat):Int))
 have a2:=totL_len x.Pairs
 have a3:=totL_len x.Records
 have a4:=mnN_le mn1FileIn mn1FileIn_le x.Files (mnMSender x.Sender (k+(x.Offers.length:Int)*((1:Nat):Int))+(x.Pairs.length:Int)*((2:Nat):Int)+(x.Records.length:Int)*((4:Nat):Int))
 have a5:=totL_len x.Told
 have b1:=Enc.tot_nonneg x.Sender
 have b3:=Enc.tot_nonneg x.Unpacker
 unfold mnMGround;omega
def mnMSpace(x:TSpace)(k:Int):Int:=mnN mn1FileOut x.Outs (mnMPacker x.Packer (mnMBoard x.Board (k))+(x.Files.length:Int)*((1:Nat):Int))+(x.Sent.length:Int)*((4:Nat):Int)
def mkMSpace(x:TSpace)(k:Int):TSpace:={ x with Board:=mkMBoard x.Board (k),Packer:=mkMPacker x.Packer (mnMBoard x.Board (k)),Files:=mkL x.Files (mnMPacker x.Packer (mnMBoard x.Board (k))),Outs:=mkN mk1FileOut mn1FileOut x.Outs (mnMPacker x.Packer (mnMBoard x.Board (k))+(x.Files.length:Int)*((1:Nat):Int)),Sent:=mkL x.Sent (mnN mn1FileOut x.Outs (mnMPacker x.Packer (mnMBoard x.Board (k))+(x.Files.length:Int)*((1:Nat):Int))) }
theorem mnMSpace_le(x:TSpace)(k:Int):k≤mnMSpace x k∧mnMSpace x k≤k+5*Enc.tot x:=by
 have t:Enc.tot x=Enc.tot x.Board+Enc.tot x.Packer+totL x.Files+totL x.Outs+totL x.Sent:=rfl
 have a0:=mnMBoard_le x.Board (k)
 have a1:=mnMPacker_le x.Packer (mnMBoard x.Board (k))
 have a2:=totL_len x.Files
 have a3:=mnN_le mn1FileOut mn1FileOut_le x.Outs (mnMPacker x.Packer (mnMBoard x.Board (k))+(x.Files.length:Int)*((1:Nat):Int))
 have a4:=totL_len x.Sent
 have b1:=Enc.tot_nonneg x.Board
 have b2:=Enc.tot_nonneg x.Packer
 unfold mnMSpace;omega
def mnMMission(x:TMission)(k:Int):Int:=mnMSpace x.Space (mnMGround x.Ground (k+(x.Plan.length:Int)*((2:Nat):Int)+(x.Ups.length:Int)*((2:Nat):Int)+(x.Downs.length:Int)*((2:Nat):Int)))+(x.Offered.length:Int)*((1:Nat):Int)+(x.Took.length:Int)*((1:Nat):Int)
def mkMMission(x:TMission)(k:Int):TMission:={ x with Plan:=mkL x.Plan (k),Ups:=mkL x.Ups (k+(x.Plan.length:Int)*((2:Nat):Int)),Downs:=mkL x.Downs (k+(x.Plan.length:Int)*((2:Nat):Int)+(x.Ups.length:Int)*((2:Nat):Int)),Ground:=mkMGround x.Ground (k+(x.Plan.length:Int)*((2:Nat):Int)+(x.Ups.length:Int)*((2:Nat):Int)+(x.Downs.length:Int)*((2:Nat):Int)),Space:=mkMSpace x.Space (mnMGround x.Ground (k+(x.Plan.length:Int)*((2:Nat):Int)+(x.Ups.length:Int)*((2:Nat):Int)+(x.Downs.length:Int)*((2:Nat):Int))),Offered:=mkL x.Offered (mnMSpace x.Space (mnMGround x.Ground (k+(x.Plan.length:Int)*((2:Nat):Int)+(x.Ups.length:Int)*((2:Nat):Int)+(x.Downs.length:Int)*((2:Nat):Int)))),Took:=mkL x.Took (mnMSpace x.Space (mnMGround x.Ground (k+(x.Plan.length:Int)*((2:Nat):Int)+(x.Ups.length:Int)*((2:Nat):Int)+(x.Downs.length:Int)*((2:Nat):Int)))+(x.Offered.length:Int)*((1:Nat):Int)) }
theorem mnMMission_le(x:TMission)(k:Int):k≤mnMMission x k∧mnMMission x k≤k+5*Enc.tot x:=by
 have t:Enc.tot x=totL x.Plan+totL x.Ups+totL x.Downs+Enc.tot x.Ground+Enc.tot x.Space+totL x.Offered+totL x.Took:=rfl
 have a0:=totL_len x.Plan
 have a1:=totL_len x.Ups
 have a2:=totL_len x.Downs
 have a3:=mnMGround_le x.Ground (k+(x.Plan.length:Int)*((2:Nat):Int)+(x.Ups.length:Int)*((2:Nat):Int)+(x.Downs.length:Int)*((2:Nat):Int))
 have a4:=mnMSpace_le x.Space (mnMGround x.Ground (k+(x.Plan.length:Int)*((2:Nat):Int)+(x.Ups.length:Int)*((2:Nat):Int)+(x.Downs.length:Int)*((2:Nat):Int)))
 have a5:=totL_len x.Offered
 have a6:=totL_len x.Took
 have b9:=Enc.tot_nonneg x.Ground
 have b10:=Enc.tot_nonneg x.Space
 unfold mnMMission;omega
end Go.Proofs.YtgmikiidcpbjbaaGreat
