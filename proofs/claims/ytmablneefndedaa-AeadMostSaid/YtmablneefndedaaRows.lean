/-
  No cell of these rows narrows 'for every input' (looked for: loops, veiled, ifaces, maps, wideKeys, modest, calm, conditions, laid).
  DERIVED. THE GIVEN ROWS OF THIS SEAT. 8 by the template 'for every input the law returns true; each argument reads behind the call as it read before'; 0 by the template 'total and deterministic' (their statements: YtmablneefndedaaTotals.lean).
  GIVEN WITH THE SEED: the statements are not yours to turn. If you find one false, say at which input.
  Laid BY PROGRAM, IN A SANDBOX (cutbox-rows.mjs): the forced cells as the released guide's own fill.sh prints them over the translation ae965e1a2e90cd80… (all of the seat's roots in one cut). By AI agents, Wed Nov 11 2026. No macro, syntax, notation, axiom, sorry.
-/
import Derived.Test.YtmablneefndedaaChecked
import GoSem.Claim
import GoSem.ClaimJoined
import GoSem.ClaimMapViews
import Derived.JoinedTies
import Derived.KernelRfl
namespace Go.Proofs.Ytmablneefndedaa
/- THE CELL 'sum', in the pinned program and in every row, IS THE sha256 OF THE DUMP (.gsa) THAT YtmablneefndedaaProg.lean LOADS. Nothing in Lean hashes anything: it is a label: what it is worth is what the hold of that sum in a sandbox is worth. -/
noncomputable def Try.pinned : Pinned := { name := "ytmablneefndedaa", sum := "ae965e1a2e90cd80009e0db5df99a84bb1a46eb05a6b5ae566799f2b46bba761", checked := Try.checked }
namespace Rows
def none {H : Type} : Left H := { results := [], args := [] }

/-- 'samphirelaw07.AeadSeals': WHATEVER THE INPUT: true; the input reads as it did. -/
def aeadSealsSpec : ChangeSpec := { name := "aeadSeals", fn := fun _ => fun
  | [d1, d2, d3] => { results := [.lit (.bool true)], args := [d1, d2, d3] }
  | _ => none }
def aeadSealsRow : OpenClaim := { program := "ytmablneefndedaa", sum := "ae965e1a2e90cd80009e0db5df99a84bb1a46eb05a6b5ae566799f2b46bba761", func := "samphire/samphirelaw07.AeadSeals", spec := "aeadSeals", inPlace := ["internal/abi.NoEscape", "internal/bytealg.MakeNoZero"], apart := false }
def AeadSealsSaid : Prop := aeadSealsRow.holds Try.pinned (OpenSpec.ofChange aeadSealsSpec)

/-- ITS FALSE NEIGHBOUR: 'it returns false'. Refute it at one input. -/
def aeadSealsWrong : ChangeSpec := { name := "aeadSeals", fn := fun _ => fun
  | [d1, d2, d3] => { results := [.lit (.bool false)], args := [d1, d2, d3] }
  | _ => none }
def AeadSealsWrongFalsely : Prop := aeadSealsRow.holds Try.pinned (OpenSpec.ofChange aeadSealsWrong)

/-- 'samphirelaw07.AeadOpens': WHATEVER THE INPUT: true; the input reads as it did. -/
def aeadOpensSpec : ChangeSpec := { name := "aeadOpens", fn := fun _ => fun
  | [d1, d2, d3] => { results := [.lit (.bool true)], args := [d1, d2, d3] }
  | _ => none }
def aeadOpensRow : OpenClaim := { program := "ytmablneefndedaa", sum := "ae965e1a2e90cd80009e0db5df99a84bb1a46eb05a6b5ae566799f2b46bba761", func := "samphire/samphirelaw07.AeadOpens", spec := "aeadOpens", inPlace := ["internal/abi.NoEscape", "internal/bytealg.MakeNoZero"], apart := false }
def AeadOpensSaid : Prop := aeadOpensRow.holds Try.pinned (OpenSpec.ofChange aeadOpensSpec)

/-- ITS FALSE NEIGHBOUR: 'it returns false'. Refute it at one input. -/
def aeadOpensWrong : ChangeSpec := { name := "aeadOpens", fn := fun _ => fun
  | [d1, d2, d3] => { results := [.lit (.bool false)], args := [d1, d2, d3] }
  | _ => none }
def AeadOpensWrongFalsely : Prop := aeadOpensRow.holds Try.pinned (OpenSpec.ofChange aeadOpensWrong)

/-- 'samphirelaw07.AeadBack': WHATEVER THE INPUT: true; the input reads as it did. -/
def aeadBackSpec : ChangeSpec := { name := "aeadBack", fn := fun _ => fun
  | [d1, d2, d3] => { results := [.lit (.bool true)], args := [d1, d2, d3] }
  | _ => none }
def aeadBackRow : OpenClaim := { program := "ytmablneefndedaa", sum := "ae965e1a2e90cd80009e0db5df99a84bb1a46eb05a6b5ae566799f2b46bba761", func := "samphire/samphirelaw07.AeadBack", spec := "aeadBack", inPlace := ["internal/abi.NoEscape", "internal/bytealg.MakeNoZero"], apart := false }
def AeadBackSaid : Prop := aeadBackRow.holds Try.pinned (OpenSpec.ofChange aeadBackSpec)

/-- ITS FALSE NEIGHBOUR: 'it returns false'. Refute it at one input. -/
def aeadBackWrong : ChangeSpec := { name := "aeadBack", fn := fun _ => fun
  | [d1, d2, d3] => { results := [.lit (.bool false)], args := [d1, d2, d3] }
  | _ => none }
def AeadBackWrongFalsely : Prop := aeadBackRow.holds Try.pinned (OpenSpec.ofChange aeadBackWrong)

/-- 'samphirelaw07.AeadTag': WHATEVER THE INPUT: true; the input reads as it did. -/
def aeadTagSpec : ChangeSpec := { name := "aeadTag", fn := fun _ => fun
  | [d1, d2, d3] => { results := [.lit (.bool true)], args := [d1, d2, d3] }
  | _ => none }
def aeadTagRow : OpenClaim := { program := "ytmablneefndedaa", sum := "ae965e1a2e90cd80009e0db5df99a84bb1a46eb05a6b5ae566799f2b46bba761", func := "samphire/samphirelaw07.AeadTag", spec := "aeadTag", inPlace := ["internal/abi.NoEscape", "internal/bytealg.MakeNoZero"], apart := false }
def AeadTagSaid : Prop := aeadTagRow.holds Try.pinned (OpenSpec.ofChange aeadTagSpec)

/-- ITS FALSE NEIGHBOUR: 'it returns false'. Refute it at one input. -/
def aeadTagWrong : ChangeSpec := { name := "aeadTag", fn := fun _ => fun
  | [d1, d2, d3] => { results := [.lit (.bool false)], args := [d1, d2, d3] }
  | _ => none }
def AeadTagWrongFalsely : Prop := aeadTagRow.holds Try.pinned (OpenSpec.ofChange aeadTagWrong)

/-- 'samphirelaw07.AeadMost': WHATEVER THE INPUT: true; the input reads as it did. -/
def aeadMostSpec : ChangeSpec := { name := "aeadMost", fn := fun _ => fun
  | [d1, d2, d3] => { results := [.lit (.bool true)], args := [d1, d2, d3] }
  | _ => none }
def aeadMostRow : OpenClaim := { program := "ytmablneefndedaa", sum := "ae965e1a2e90cd80009e0db5df99a84bb1a46eb05a6b5ae566799f2b46bba761", func := "samphire/samphirelaw07.AeadMost", spec := "aeadMost", inPlace := ["internal/abi.NoEscape", "internal/bytealg.MakeNoZero"], apart := false }
def AeadMostSaid : Prop := aeadMostRow.holds Try.pinned (OpenSpec.ofChange aeadMostSpec)

/-- ITS FALSE NEIGHBOUR: 'it returns false'. Refute it at one input. -/
def aeadMostWrong : ChangeSpec := { name := "aeadMost", fn := fun _ => fun
  | [d1, d2, d3] => { results := [.lit (.bool false)], args := [d1, d2, d3] }
  | _ => none }
def AeadMostWrongFalsely : Prop := aeadMostRow.holds Try.pinned (OpenSpec.ofChange aeadMostWrong)

/-- 'samphirelaw15.KeysNonces': WHATEVER THE INPUT: true; the input reads as it did. -/
def keysNoncesSpec : ChangeSpec := { name := "keysNonces", fn := fun _ => fun
  | [d1, d2] => { results := [.lit (.bool true)], args := [d1, d2] }
  | _ => none }
def keysNoncesRow : OpenClaim := { program := "ytmablneefndedaa", sum := "ae965e1a2e90cd80009e0db5df99a84bb1a46eb05a6b5ae566799f2b46bba761", func := "samphire/samphirelaw15.KeysNonces", spec := "keysNonces", inPlace := ["internal/abi.NoEscape", "internal/bytealg.MakeNoZero"], apart := false }
def KeysNoncesSaid : Prop := keysNoncesRow.holds Try.pinned (OpenSpec.ofChange keysNoncesSpec)

/-- ITS FALSE NEIGHBOUR: 'it returns false'. Refute it at one input. -/
def keysNoncesWrong : ChangeSpec := { name := "keysNonces", fn := fun _ => fun
  | [d1, d2] => { results := [.lit (.bool false)], args := [d1, d2] }
  | _ => none }
def KeysNoncesWrongFalsely : Prop := keysNoncesRow.holds Try.pinned (OpenSpec.ofChange keysNoncesWrong)

/-- 'samphirelaw15.KeysSend': WHATEVER THE INPUT: true; the input reads as it did. -/
def keysSendSpec : ChangeSpec := { name := "keysSend", fn := fun _ => fun
  | [d1, d2, d3] => { results := [.lit (.bool true)], args := [d1, d2, d3] }
  | _ => none }
def keysSendRow : OpenClaim := { program := "ytmablneefndedaa", sum := "ae965e1a2e90cd80009e0db5df99a84bb1a46eb05a6b5ae566799f2b46bba761", func := "samphire/samphirelaw15.KeysSend", spec := "keysSend", inPlace := ["internal/abi.NoEscape", "internal/bytealg.MakeNoZero"], apart := false }
def KeysSendSaid : Prop := keysSendRow.holds Try.pinned (OpenSpec.ofChange keysSendSpec)

/-- ITS FALSE NEIGHBOUR: 'it returns false'. Refute it at one input. -/
def keysSendWrong : ChangeSpec := { name := "keysSend", fn := fun _ => fun
  | [d1, d2, d3] => { results := [.lit (.bool false)], args := [d1, d2, d3] }
  | _ => none }
def KeysSendWrongFalsely : Prop := keysSendRow.holds Try.pinned (OpenSpec.ofChange keysSendWrong)

/-- 'samphirelaw15.KeysFresh': WHATEVER THE INPUT: true; the input reads as it did. -/
def keysFreshSpec : ChangeSpec := { name := "keysFresh", fn := fun _ => fun
  | [d1, d2, d3] => { results := [.lit (.bool true)], args := [d1, d2, d3] }
  | _ => none }
def keysFreshRow : OpenClaim := { program := "ytmablneefndedaa", sum := "ae965e1a2e90cd80009e0db5df99a84bb1a46eb05a6b5ae566799f2b46bba761", func := "samphire/samphirelaw15.KeysFresh", spec := "keysFresh", inPlace := ["internal/abi.NoEscape", "internal/bytealg.MakeNoZero"], apart := false }
def KeysFreshSaid : Prop := keysFreshRow.holds Try.pinned (OpenSpec.ofChange keysFreshSpec)

/-- ITS FALSE NEIGHBOUR: 'it returns false'. Refute it at one input. -/
def keysFreshWrong : ChangeSpec := { name := "keysFresh", fn := fun _ => fun
  | [d1, d2, d3] => { results := [.lit (.bool false)], args := [d1, d2, d3] }
  | _ => none }
def KeysFreshWrongFalsely : Prop := keysFreshRow.holds Try.pinned (OpenSpec.ofChange keysFreshWrong)

/- THE SECOND FORM. 'bulk': how many values and letters a reading holds, each counted each time it is reached (what is shared counts as often as it is met; a slice's spare places count too). A statement '..UptoSaid' is the law's where the arguments, and the package variables that the reading takes, are together of bulk at most 1048576: NARROWER than '..Said'. Prove '..Said' where nothing that the law and all that it calls make is longer than what came in: it says more and counts as full. Else prove '..UptoSaid'. A law counts once. -/
mutual
def uptoBulk {H : Type} : DataW H → Nat
  | .lit (.string bytes) => bytes.length + 1
  | .lit _ => 1
  | .nil => 1
  | .ptr d => uptoBulk d + 1
  | .slice elems spare => uptoBulkAll elems + uptoBulkAll spare + 1
  | .agg parts => uptoBulkAll parts + 1
  | .iface _ d => uptoBulk d + 1
  | .map entries => uptoBulkEntries entries + 1
  | .held _ => 1
def uptoBulkAll {H : Type} : List (DataW H) → Nat
  | [] => 0
  | d :: r => uptoBulk d + uptoBulkAll r
def uptoBulkEntries {H : Type} : List (Lit × DataW H) → Nat
  | [] => 0
  | x :: r => uptoBulkEntry x + uptoBulkEntries r
def uptoBulkEntry {H : Type} : Lit × DataW H → Nat
  | (.string bytes, d) => bytes.length + uptoBulk d + 1
  | (_, d) => uptoBulk d + 1
 end
def uptoSmall : (H : Type) → List (DataW H) → Bool := fun _ ds => decide (uptoBulkAll ds ≤ 1048576)
def OpenSpec.upto (s : _root_.Go.ChangeSpec) : _root_.Go.OpenSpec := { _root_.Go.OpenSpec.ofChange s with cond := some uptoSmall }

/-- 'samphirelaw07.AeadSeals', WHERE WHAT IT READS IS OF BULK AT MOST 1048576: true; the input reads as it did. -/
def aeadSealsUptoRow : OpenClaim := { program := "ytmablneefndedaa", sum := "ae965e1a2e90cd80009e0db5df99a84bb1a46eb05a6b5ae566799f2b46bba761", func := "samphire/samphirelaw07.AeadSeals", spec := "aeadSeals", inPlace := ["internal/abi.NoEscape", "internal/bytealg.MakeNoZero"], apart := false, narrowed := true }
def AeadSealsUptoSaid : Prop := aeadSealsUptoRow.holds Try.pinned (OpenSpec.upto aeadSealsSpec)

/-- 'samphirelaw07.AeadOpens', WHERE WHAT IT READS IS OF BULK AT MOST 1048576: true; the input reads as it did. -/
def aeadOpensUptoRow : OpenClaim := { program := "ytmablneefndedaa", sum := "ae965e1a2e90cd80009e0db5df99a84bb1a46eb05a6b5ae566799f2b46bba761", func := "samphire/samphirelaw07.AeadOpens", spec := "aeadOpens", inPlace := ["internal/abi.NoEscape", "internal/bytealg.MakeNoZero"], apart := false, narrowed := true }
def AeadOpensUptoSaid : Prop := aeadOpensUptoRow.holds Try.pinned (OpenSpec.upto aeadOpensSpec)

/-- 'samphirelaw07.AeadBack', WHERE WHAT IT READS IS OF BULK AT MOST 1048576: true; the input reads as it did. -/
def aeadBackUptoRow : OpenClaim := { program := "ytmablneefndedaa", sum := "ae965e1a2e90cd80009e0db5df99a84bb1a46eb05a6b5ae566799f2b46bba761", func := "samphire/samphirelaw07.AeadBack", spec := "aeadBack", inPlace := ["internal/abi.NoEscape", "internal/bytealg.MakeNoZero"], apart := false, narrowed := true }
def AeadBackUptoSaid : Prop := aeadBackUptoRow.holds Try.pinned (OpenSpec.upto aeadBackSpec)

/-- 'samphirelaw07.AeadTag', WHERE WHAT IT READS IS OF BULK AT MOST 1048576: true; the input reads as it did. -/
def aeadTagUptoRow : OpenClaim := { program := "ytmablneefndedaa", sum := "ae965e1a2e90cd80009e0db5df99a84bb1a46eb05a6b5ae566799f2b46bba761", func := "samphire/samphirelaw07.AeadTag", spec := "aeadTag", inPlace := ["internal/abi.NoEscape", "internal/bytealg.MakeNoZero"], apart := false, narrowed := true }
def AeadTagUptoSaid : Prop := aeadTagUptoRow.holds Try.pinned (OpenSpec.upto aeadTagSpec)

/-- 'samphirelaw07.AeadMost', WHERE WHAT IT READS IS OF BULK AT MOST 1048576: true; the input reads as it did. -/
def aeadMostUptoRow : OpenClaim := { program := "ytmablneefndedaa", sum := "ae965e1a2e90cd80009e0db5df99a84bb1a46eb05a6b5ae566799f2b46bba761", func := "samphire/samphirelaw07.AeadMost", spec := "aeadMost", inPlace := ["internal/abi.NoEscape", "internal/bytealg.MakeNoZero"], apart := false, narrowed := true }
def AeadMostUptoSaid : Prop := aeadMostUptoRow.holds Try.pinned (OpenSpec.upto aeadMostSpec)

/-- 'samphirelaw15.KeysNonces', WHERE WHAT IT READS IS OF BULK AT MOST 1048576: true; the input reads as it did. -/
def keysNoncesUptoRow : OpenClaim := { program := "ytmablneefndedaa", sum := "ae965e1a2e90cd80009e0db5df99a84bb1a46eb05a6b5ae566799f2b46bba761", func := "samphire/samphirelaw15.KeysNonces", spec := "keysNonces", inPlace := ["internal/abi.NoEscape", "internal/bytealg.MakeNoZero"], apart := false, narrowed := true }
def KeysNoncesUptoSaid : Prop := keysNoncesUptoRow.holds Try.pinned (OpenSpec.upto keysNoncesSpec)

/-- 'samphirelaw15.KeysSend', WHERE WHAT IT READS IS OF BULK AT MOST 1048576: true; the input reads as it did. -/
def keysSendUptoRow : OpenClaim := { program := "ytmablneefndedaa", sum := "ae965e1a2e90cd80009e0db5df99a84bb1a46eb05a6b5ae566799f2b46bba761", func := "samphire/samphirelaw15.KeysSend", spec := "keysSend", inPlace := ["internal/abi.NoEscape", "internal/bytealg.MakeNoZero"], apart := false, narrowed := true }
def KeysSendUptoSaid : Prop := keysSendUptoRow.holds Try.pinned (OpenSpec.upto keysSendSpec)

/-- 'samphirelaw15.KeysFresh', WHERE WHAT IT READS IS OF BULK AT MOST 1048576: true; the input reads as it did. -/
def keysFreshUptoRow : OpenClaim := { program := "ytmablneefndedaa", sum := "ae965e1a2e90cd80009e0db5df99a84bb1a46eb05a6b5ae566799f2b46bba761", func := "samphire/samphirelaw15.KeysFresh", spec := "keysFresh", inPlace := ["internal/abi.NoEscape", "internal/bytealg.MakeNoZero"], apart := false, narrowed := true }
def KeysFreshUptoSaid : Prop := keysFreshUptoRow.holds Try.pinned (OpenSpec.upto keysFreshSpec)

end Rows
end Go.Proofs.Ytmablneefndedaa
