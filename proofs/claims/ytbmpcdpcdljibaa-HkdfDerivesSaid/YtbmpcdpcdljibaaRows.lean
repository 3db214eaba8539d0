/-
  No cell of these rows narrows 'for every input' (looked for: loops, veiled, ifaces, maps, wideKeys, modest, calm, conditions, laid).
  DERIVED. THE GIVEN ROWS OF THIS SEAT. 14 by the template 'for every input the law returns true; each argument reads behind the call as it read before'; 0 by the template 'total and deterministic' (their statements: YtbmpcdpcdljibaaTotals.lean).
  GIVEN WITH THE SEED: the statements are not yours to turn. If you find one false, say at which input.
  Laid BY PROGRAM, IN A SANDBOX (cutbox-rows.mjs): the forced cells as the released guide's own fill.sh prints them over the translation 82a2e0d3852f2078… (all of the seat's roots in one cut). By AI agents, Wed Nov 11 2026. No macro, syntax, notation, axiom, sorry.
-/
import Derived.Test.YtbmpcdpcdljibaaChecked
import GoSem.Claim
import GoSem.ClaimJoined
import GoSem.ClaimMapViews
import Derived.JoinedTies
import Derived.KernelRfl
namespace Go.Proofs.Ytbmpcdpcdljibaa
/- THE CELL 'sum', in the pinned program and in every row, IS THE sha256 OF THE DUMP (.gsa) THAT YtbmpcdpcdljibaaProg.lean LOADS. Nothing in Lean hashes anything: it is a label: what it is worth is what the hold of that sum in a sandbox is worth. -/
noncomputable def Try.pinned : Pinned := { name := "ytbmpcdpcdljibaa", sum := "82a2e0d3852f2078e538c909f9ab8f92b7db613ed421adba9509a0db4b4a315b", checked := Try.checked }
namespace Rows
def none {H : Type} : Left H := { results := [], args := [] }

/-- 'samphirelaw02.ShaBlocks': WHATEVER THE INPUT: true; the input reads as it did. -/
def shaBlocksSpec : ChangeSpec := { name := "shaBlocks", fn := fun _ => fun
  | [d1, d2] => { results := [.lit (.bool true)], args := [d1, d2] }
  | _ => none }
def shaBlocksRow : OpenClaim := { program := "ytbmpcdpcdljibaa", sum := "82a2e0d3852f2078e538c909f9ab8f92b7db613ed421adba9509a0db4b4a315b", func := "samphire/samphirelaw02.ShaBlocks", spec := "shaBlocks", apart := false }
def ShaBlocksSaid : Prop := shaBlocksRow.holds Try.pinned (OpenSpec.ofChange shaBlocksSpec)

/-- ITS FALSE NEIGHBOUR: 'it returns false'. Refute it at one input. -/
def shaBlocksWrong : ChangeSpec := { name := "shaBlocks", fn := fun _ => fun
  | [d1, d2] => { results := [.lit (.bool false)], args := [d1, d2] }
  | _ => none }
def ShaBlocksWrongFalsely : Prop := shaBlocksRow.holds Try.pinned (OpenSpec.ofChange shaBlocksWrong)

/-- 'samphirelaw02.ShaPads': WHATEVER THE INPUT: true; the input reads as it did. -/
def shaPadsSpec : ChangeSpec := { name := "shaPads", fn := fun _ => fun
  | [d] => { results := [.lit (.bool true)], args := [d] }
  | _ => none }
def shaPadsRow : OpenClaim := { program := "ytbmpcdpcdljibaa", sum := "82a2e0d3852f2078e538c909f9ab8f92b7db613ed421adba9509a0db4b4a315b", func := "samphire/samphirelaw02.ShaPads", spec := "shaPads", inPlace := ["internal/abi.NoEscape", "internal/bytealg.MakeNoZero"], apart := false }
def ShaPadsSaid : Prop := shaPadsRow.holds Try.pinned (OpenSpec.ofChange shaPadsSpec)

/-- ITS FALSE NEIGHBOUR: 'it returns false'. Refute it at one input. -/
def shaPadsWrong : ChangeSpec := { name := "shaPads", fn := fun _ => fun
  | [d] => { results := [.lit (.bool false)], args := [d] }
  | _ => none }
def ShaPadsWrongFalsely : Prop := shaPadsRow.holds Try.pinned (OpenSpec.ofChange shaPadsWrong)

/-- 'samphirelaw02.ShaSums': WHATEVER THE INPUT: true; the input reads as it did. -/
def shaSumsSpec : ChangeSpec := { name := "shaSums", fn := fun _ => fun
  | [d] => { results := [.lit (.bool true)], args := [d] }
  | _ => none }
def shaSumsRow : OpenClaim := { program := "ytbmpcdpcdljibaa", sum := "82a2e0d3852f2078e538c909f9ab8f92b7db613ed421adba9509a0db4b4a315b", func := "samphire/samphirelaw02.ShaSums", spec := "shaSums", inPlace := ["internal/abi.NoEscape", "internal/bytealg.MakeNoZero"], apart := false }
def ShaSumsSaid : Prop := shaSumsRow.holds Try.pinned (OpenSpec.ofChange shaSumsSpec)

/-- ITS FALSE NEIGHBOUR: 'it returns false'. Refute it at one input. -/
def shaSumsWrong : ChangeSpec := { name := "shaSums", fn := fun _ => fun
  | [d] => { results := [.lit (.bool false)], args := [d] }
  | _ => none }
def ShaSumsWrongFalsely : Prop := shaSumsRow.holds Try.pinned (OpenSpec.ofChange shaSumsWrong)

/-- 'samphirelaw02.ShaLengths': WHATEVER THE INPUT: true; the input reads as it did. -/
def shaLengthsSpec : ChangeSpec := { name := "shaLengths", fn := fun _ => fun
  | [d1, d2] => { results := [.lit (.bool true)], args := [d1, d2] }
  | _ => none }
def shaLengthsRow : OpenClaim := { program := "ytbmpcdpcdljibaa", sum := "82a2e0d3852f2078e538c909f9ab8f92b7db613ed421adba9509a0db4b4a315b", func := "samphire/samphirelaw02.ShaLengths", spec := "shaLengths", inPlace := ["internal/abi.NoEscape", "internal/bytealg.MakeNoZero"], apart := false }
def ShaLengthsSaid : Prop := shaLengthsRow.holds Try.pinned (OpenSpec.ofChange shaLengthsSpec)

/-- ITS FALSE NEIGHBOUR: 'it returns false'. Refute it at one input. -/
def shaLengthsWrong : ChangeSpec := { name := "shaLengths", fn := fun _ => fun
  | [d1, d2] => { results := [.lit (.bool false)], args := [d1, d2] }
  | _ => none }
def ShaLengthsWrongFalsely : Prop := shaLengthsRow.holds Try.pinned (OpenSpec.ofChange shaLengthsWrong)

/-- 'samphirelaw02.ShaParts': WHATEVER THE INPUT: true; the input reads as it did. -/
def shaPartsSpec : ChangeSpec := { name := "shaParts", fn := fun _ => fun
  | [d] => { results := [.lit (.bool true)], args := [d] }
  | _ => none }
def shaPartsRow : OpenClaim := { program := "ytbmpcdpcdljibaa", sum := "82a2e0d3852f2078e538c909f9ab8f92b7db613ed421adba9509a0db4b4a315b", func := "samphire/samphirelaw02.ShaParts", spec := "shaParts", inPlace := ["internal/abi.NoEscape", "internal/bytealg.MakeNoZero"], apart := false }
def ShaPartsSaid : Prop := shaPartsRow.holds Try.pinned (OpenSpec.ofChange shaPartsSpec)

/-- ITS FALSE NEIGHBOUR: 'it returns false'. Refute it at one input. -/
def shaPartsWrong : ChangeSpec := { name := "shaParts", fn := fun _ => fun
  | [d] => { results := [.lit (.bool false)], args := [d] }
  | _ => none }
def ShaPartsWrongFalsely : Prop := shaPartsRow.holds Try.pinned (OpenSpec.ofChange shaPartsWrong)

/-- 'samphirelaw03.HmacSums': WHATEVER THE INPUT: true; the input reads as it did. -/
def hmacSumsSpec : ChangeSpec := { name := "hmacSums", fn := fun _ => fun
  | [d1, d2, d3] => { results := [.lit (.bool true)], args := [d1, d2, d3] }
  | _ => none }
def hmacSumsRow : OpenClaim := { program := "ytbmpcdpcdljibaa", sum := "82a2e0d3852f2078e538c909f9ab8f92b7db613ed421adba9509a0db4b4a315b", func := "samphire/samphirelaw03.HmacSums", spec := "hmacSums", inPlace := ["internal/abi.NoEscape", "internal/bytealg.MakeNoZero"], apart := false }
def HmacSumsSaid : Prop := hmacSumsRow.holds Try.pinned (OpenSpec.ofChange hmacSumsSpec)

/-- ITS FALSE NEIGHBOUR: 'it returns false'. Refute it at one input. -/
def hmacSumsWrong : ChangeSpec := { name := "hmacSums", fn := fun _ => fun
  | [d1, d2, d3] => { results := [.lit (.bool false)], args := [d1, d2, d3] }
  | _ => none }
def HmacSumsWrongFalsely : Prop := hmacSumsRow.holds Try.pinned (OpenSpec.ofChange hmacSumsWrong)

/-- 'samphirelaw03.HmacKeys': WHATEVER THE INPUT: true; the input reads as it did. -/
def hmacKeysSpec : ChangeSpec := { name := "hmacKeys", fn := fun _ => fun
  | [d1, d2, d3] => { results := [.lit (.bool true)], args := [d1, d2, d3] }
  | _ => none }
def hmacKeysRow : OpenClaim := { program := "ytbmpcdpcdljibaa", sum := "82a2e0d3852f2078e538c909f9ab8f92b7db613ed421adba9509a0db4b4a315b", func := "samphire/samphirelaw03.HmacKeys", spec := "hmacKeys", inPlace := ["internal/abi.NoEscape", "internal/bytealg.MakeNoZero"], apart := false }
def HmacKeysSaid : Prop := hmacKeysRow.holds Try.pinned (OpenSpec.ofChange hmacKeysSpec)

/-- ITS FALSE NEIGHBOUR: 'it returns false'. Refute it at one input. -/
def hmacKeysWrong : ChangeSpec := { name := "hmacKeys", fn := fun _ => fun
  | [d1, d2, d3] => { results := [.lit (.bool false)], args := [d1, d2, d3] }
  | _ => none }
def HmacKeysWrongFalsely : Prop := hmacKeysRow.holds Try.pinned (OpenSpec.ofChange hmacKeysWrong)

/-- 'samphirelaw03.HmacTells': WHATEVER THE INPUT: true; the input reads as it did. -/
def hmacTellsSpec : ChangeSpec := { name := "hmacTells", fn := fun _ => fun
  | [d1, d2, d3] => { results := [.lit (.bool true)], args := [d1, d2, d3] }
  | _ => none }
def hmacTellsRow : OpenClaim := { program := "ytbmpcdpcdljibaa", sum := "82a2e0d3852f2078e538c909f9ab8f92b7db613ed421adba9509a0db4b4a315b", func := "samphire/samphirelaw03.HmacTells", spec := "hmacTells", inPlace := ["internal/abi.NoEscape", "internal/bytealg.MakeNoZero"], apart := false }
def HmacTellsSaid : Prop := hmacTellsRow.holds Try.pinned (OpenSpec.ofChange hmacTellsSpec)

/-- ITS FALSE NEIGHBOUR: 'it returns false'. Refute it at one input. -/
def hmacTellsWrong : ChangeSpec := { name := "hmacTells", fn := fun _ => fun
  | [d1, d2, d3] => { results := [.lit (.bool false)], args := [d1, d2, d3] }
  | _ => none }
def HmacTellsWrongFalsely : Prop := hmacTellsRow.holds Try.pinned (OpenSpec.ofChange hmacTellsWrong)

/-- 'samphirelaw03.HmacParts': WHATEVER THE INPUT: true; the input reads as it did. -/
def hmacPartsSpec : ChangeSpec := { name := "hmacParts", fn := fun _ => fun
  | [d1, d2] => { results := [.lit (.bool true)], args := [d1, d2] }
  | _ => none }
def hmacPartsRow : OpenClaim := { program := "ytbmpcdpcdljibaa", sum := "82a2e0d3852f2078e538c909f9ab8f92b7db613ed421adba9509a0db4b4a315b", func := "samphire/samphirelaw03.HmacParts", spec := "hmacParts", inPlace := ["internal/abi.NoEscape", "internal/bytealg.MakeNoZero"], apart := false }
def HmacPartsSaid : Prop := hmacPartsRow.holds Try.pinned (OpenSpec.ofChange hmacPartsSpec)

/-- ITS FALSE NEIGHBOUR: 'it returns false'. Refute it at one input. -/
def hmacPartsWrong : ChangeSpec := { name := "hmacParts", fn := fun _ => fun
  | [d1, d2] => { results := [.lit (.bool false)], args := [d1, d2] }
  | _ => none }
def HmacPartsWrongFalsely : Prop := hmacPartsRow.holds Try.pinned (OpenSpec.ofChange hmacPartsWrong)

/-- 'samphirelaw04.HkdfExpands': WHATEVER THE INPUT: true; the input reads as it did. -/
def hkdfExpandsSpec : ChangeSpec := { name := "hkdfExpands", fn := fun _ => fun
  | [d1, d2, d3] => { results := [.lit (.bool true)], args := [d1, d2, d3] }
  | _ => none }
def hkdfExpandsRow : OpenClaim := { program := "ytbmpcdpcdljibaa", sum := "82a2e0d3852f2078e538c909f9ab8f92b7db613ed421adba9509a0db4b4a315b", func := "samphire/samphirelaw04.HkdfExpands", spec := "hkdfExpands", inPlace := ["internal/abi.NoEscape", "internal/bytealg.MakeNoZero"], apart := false }
def HkdfExpandsSaid : Prop := hkdfExpandsRow.holds Try.pinned (OpenSpec.ofChange hkdfExpandsSpec)

/-- ITS FALSE NEIGHBOUR: 'it returns false'. Refute it at one input. -/
def hkdfExpandsWrong : ChangeSpec := { name := "hkdfExpands", fn := fun _ => fun
  | [d1, d2, d3] => { results := [.lit (.bool false)], args := [d1, d2, d3] }
  | _ => none }
def HkdfExpandsWrongFalsely : Prop := hkdfExpandsRow.holds Try.pinned (OpenSpec.ofChange hkdfExpandsWrong)

/-- 'samphirelaw04.HkdfExtracts': WHATEVER THE INPUT: true; the input reads as it did. -/
def hkdfExtractsSpec : ChangeSpec := { name := "hkdfExtracts", fn := fun _ => fun
  | [d1, d2] => { results := [.lit (.bool true)], args := [d1, d2] }
  | _ => none }
def hkdfExtractsRow : OpenClaim := { program := "ytbmpcdpcdljibaa", sum := "82a2e0d3852f2078e538c909f9ab8f92b7db613ed421adba9509a0db4b4a315b", func := "samphire/samphirelaw04.HkdfExtracts", spec := "hkdfExtracts", inPlace := ["internal/abi.NoEscape", "internal/bytealg.MakeNoZero"], apart := false }
def HkdfExtractsSaid : Prop := hkdfExtractsRow.holds Try.pinned (OpenSpec.ofChange hkdfExtractsSpec)

/-- ITS FALSE NEIGHBOUR: 'it returns false'. Refute it at one input. -/
def hkdfExtractsWrong : ChangeSpec := { name := "hkdfExtracts", fn := fun _ => fun
  | [d1, d2] => { results := [.lit (.bool false)], args := [d1, d2] }
  | _ => none }
def HkdfExtractsWrongFalsely : Prop := hkdfExtractsRow.holds Try.pinned (OpenSpec.ofChange hkdfExtractsWrong)

/-- 'samphirelaw04.HkdfDerives': WHATEVER THE INPUT: true; the input reads as it did. -/
def hkdfDerivesSpec : ChangeSpec := { name := "hkdfDerives", fn := fun _ => fun
  | [d1, d2, d3] => { results := [.lit (.bool true)], args := [d1, d2, d3] }
  | _ => none }
def hkdfDerivesRow : OpenClaim := { program := "ytbmpcdpcdljibaa", sum := "82a2e0d3852f2078e538c909f9ab8f92b7db613ed421adba9509a0db4b4a315b", func := "samphire/samphirelaw04.HkdfDerives", spec := "hkdfDerives", inPlace := ["internal/abi.NoEscape", "internal/bytealg.MakeNoZero"], apart := false }
def HkdfDerivesSaid : Prop := hkdfDerivesRow.holds Try.pinned (OpenSpec.ofChange hkdfDerivesSpec)

/-- ITS FALSE NEIGHBOUR: 'it returns false'. Refute it at one input. -/
def hkdfDerivesWrong : ChangeSpec := { name := "hkdfDerives", fn := fun _ => fun
  | [d1, d2, d3] => { results := [.lit (.bool false)], args := [d1, d2, d3] }
  | _ => none }
def HkdfDerivesWrongFalsely : Prop := hkdfDerivesRow.holds Try.pinned (OpenSpec.ofChange hkdfDerivesWrong)

/-- 'samphirelaw04.HkdfChains': WHATEVER THE INPUT: true; the input reads as it did. -/
def hkdfChainsSpec : ChangeSpec := { name := "hkdfChains", fn := fun _ => fun
  | [d1, d2, d3] => { results := [.lit (.bool true)], args := [d1, d2, d3] }
  | _ => none }
def hkdfChainsRow : OpenClaim := { program := "ytbmpcdpcdljibaa", sum := "82a2e0d3852f2078e538c909f9ab8f92b7db613ed421adba9509a0db4b4a315b", func := "samphire/samphirelaw04.HkdfChains", spec := "hkdfChains", inPlace := ["internal/abi.NoEscape", "internal/bytealg.MakeNoZero"], apart := false }
def HkdfChainsSaid : Prop := hkdfChainsRow.holds Try.pinned (OpenSpec.ofChange hkdfChainsSpec)

/-- ITS FALSE NEIGHBOUR: 'it returns false'. Refute it at one input. -/
def hkdfChainsWrong : ChangeSpec := { name := "hkdfChains", fn := fun _ => fun
  | [d1, d2, d3] => { results := [.lit (.bool false)], args := [d1, d2, d3] }
  | _ => none }
def HkdfChainsWrongFalsely : Prop := hkdfChainsRow.holds Try.pinned (OpenSpec.ofChange hkdfChainsWrong)

/-- 'samphirelaw04.HkdfMost': WHATEVER THE INPUT: true; the input reads as it did. -/
def hkdfMostSpec : ChangeSpec := { name := "hkdfMost", fn := fun _ => fun
  | [d1, d2] => { results := [.lit (.bool true)], args := [d1, d2] }
  | _ => none }
def hkdfMostRow : OpenClaim := { program := "ytbmpcdpcdljibaa", sum := "82a2e0d3852f2078e538c909f9ab8f92b7db613ed421adba9509a0db4b4a315b", func := "samphire/samphirelaw04.HkdfMost", spec := "hkdfMost", inPlace := ["internal/abi.NoEscape", "internal/bytealg.MakeNoZero"], apart := false }
def HkdfMostSaid : Prop := hkdfMostRow.holds Try.pinned (OpenSpec.ofChange hkdfMostSpec)

/-- ITS FALSE NEIGHBOUR: 'it returns false'. Refute it at one input. -/
def hkdfMostWrong : ChangeSpec := { name := "hkdfMost", fn := fun _ => fun
  | [d1, d2] => { results := [.lit (.bool false)], args := [d1, d2] }
  | _ => none }
def HkdfMostWrongFalsely : Prop := hkdfMostRow.holds Try.pinned (OpenSpec.ofChange hkdfMostWrong)

/- THE SECOND FORM. 'bulk': how many values and letters a reading holds, each counted each time it is reached (what is shared counts as often as it is met; a slice's spare places count too). A statement '..UptoSaid' is the law's where the arguments, and the package variables that the reading takes, are together of bulk at most 1048576: NARROWER than '..Said'. Prove '..Said' where nothing that the law and all that it calls make is longer than what came in: it says more and counts as full. Else prove '..UptoSaid'. A law counts once. -/
mutual
def uptoBulk {H : Type} : DataW H → Nat
  | .lit (.string bytes) => bytes.length + 1
  | .lit _ => 1
  | .nil => 1
  | .ptr d => uptoBulk d + 1
  | .slice elems spare => uptoBulkAll elems + uptoBulkAll spare + 1
  | .agg parts => uptoBulkAll parts + 1
  | .iface _ d => uptoBulk d + 1
  | .map entries => uptoBulkEntries entries + 1
  | .held _ => 1
def uptoBulkAll {H : Type} : List (DataW H) → Nat
  | [] => 0
  | d :: r => uptoBulk d + uptoBulkAll r
def uptoBulkEntries {H : Type} : List (Lit × DataW H) → Nat
  | [] => 0
  | x :: r => uptoBulkEntry x + uptoBulkEntries r
def uptoBulkEntry {H : Type} : Lit × DataW H → Nat
  | (.string bytes, d) => bytes.length + uptoBulk d + 1
  | (_, d) => uptoBulk d + 1
 end
def uptoSmall : (H : Type) → List (DataW H) → Bool := fun _ ds => decide (uptoBulkAll ds ≤ 1048576)
def OpenSpec.upto (s : _root_.Go.ChangeSpec) : _root_.Go.OpenSpec := { _root_.Go.OpenSpec.ofChange s with cond := some uptoSmall }

/-- 'samphirelaw02.ShaBlocks', WHERE WHAT IT READS IS OF BULK AT MOST 1048576: true; the input reads as it did. -/
def shaBlocksUptoRow : OpenClaim := { program := "ytbmpcdpcdljibaa", sum := "82a2e0d3852f2078e538c909f9ab8f92b7db613ed421adba9509a0db4b4a315b", func := "samphire/samphirelaw02.ShaBlocks", spec := "shaBlocks", apart := false, narrowed := true }
def ShaBlocksUptoSaid : Prop := shaBlocksUptoRow.holds Try.pinned (OpenSpec.upto shaBlocksSpec)

/-- 'samphirelaw02.ShaPads', WHERE WHAT IT READS IS OF BULK AT MOST 1048576: true; the input reads as it did. -/
def shaPadsUptoRow : OpenClaim := { program := "ytbmpcdpcdljibaa", sum := "82a2e0d3852f2078e538c909f9ab8f92b7db613ed421adba9509a0db4b4a315b", func := "samphire/samphirelaw02.ShaPads", spec := "shaPads", inPlace := ["internal/abi.NoEscape", "internal/bytealg.MakeNoZero"], apart := false, narrowed := true }
def ShaPadsUptoSaid : Prop := shaPadsUptoRow.holds Try.pinned (OpenSpec.upto shaPadsSpec)

/-- 'samphirelaw02.ShaSums', WHERE WHAT IT READS IS OF BULK AT MOST 1048576: true; the input reads as it did. -/
def shaSumsUptoRow : OpenClaim := { program := "ytbmpcdpcdljibaa", sum := "82a2e0d3852f2078e538c909f9ab8f92b7db613ed421adba9509a0db4b4a315b", func := "samphire/samphirelaw02.ShaSums", spec := "shaSums", inPlace := ["internal/abi.NoEscape", "internal/bytealg.MakeNoZero"], apart := false, narrowed := true }
def ShaSumsUptoSaid : Prop := shaSumsUptoRow.holds Try.pinned (OpenSpec.upto shaSumsSpec)

/-- 'samphirelaw02.ShaLengths', WHERE WHAT IT READS IS OF BULK AT MOST 1048576: true; the input reads as it did. -/
def shaLengthsUptoRow : OpenClaim := { program := "ytbmpcdpcdljibaa", sum := "82a2e0d3852f2078e538c909f9ab8f92b7db613ed421adba9509a0db4b4a315b", func := "samphire/samphirelaw02.ShaLengths", spec := "shaLengths", inPlace := ["internal/abi.NoEscape", "internal/bytealg.MakeNoZero"], apart := false, narrowed := true }
def ShaLengthsUptoSaid : Prop := shaLengthsUptoRow.holds Try.pinned (OpenSpec.upto shaLengthsSpec)

/-- 'samphirelaw02.ShaParts', WHERE WHAT IT READS IS OF BULK AT MOST 1048576: true; the input reads as it did. -/
def shaPartsUptoRow : OpenClaim := { program := "ytbmpcdpcdljibaa", sum := "82a2e0d3852f2078e538c909f9ab8f92b7db613ed421adba9509a0db4b4a315b", func := "samphire/samphirelaw02.ShaParts", spec := "shaParts", inPlace := ["internal/abi.NoEscape", "internal/bytealg.MakeNoZero"], apart := false, narrowed := true }
def ShaPartsUptoSaid : Prop := shaPartsUptoRow.holds Try.pinned (OpenSpec.upto shaPartsSpec)

/-- 'samphirelaw03.HmacSums', WHERE WHAT IT READS IS OF BULK AT MOST 1048576: true; the input reads as it did. -/
def hmacSumsUptoRow : OpenClaim := { program := "ytbmpcdpcdljibaa", sum := "82a2e0d3852f2078e538c909f9ab8f92b7db613ed421adba9509a0db4b4a315b", func := "samphire/samphirelaw03.HmacSums", spec := "hmacSums", inPlace := ["internal/abi.NoEscape", "internal/bytealg.MakeNoZero"], apart := false, narrowed := true }
def HmacSumsUptoSaid : Prop := hmacSumsUptoRow.holds Try.pinned (OpenSpec.upto hmacSumsSpec)

/-- 'samphirelaw03.HmacKeys', WHERE WHAT IT READS IS OF BULK AT MOST 1048576: true; the input reads as it did. -/
def hmacKeysUptoRow : OpenClaim := { program := "ytbmpcdpcdljibaa", sum := "82a2e0d3852f2078e538c909f9ab8f92b7db613ed421adba9509a0db4b4a315b", func := "samphire/samphirelaw03.HmacKeys", spec := "hmacKeys", inPlace := ["internal/abi.NoEscape", "internal/bytealg.MakeNoZero"], apart := false, narrowed := true }
def HmacKeysUptoSaid : Prop := hmacKeysUptoRow.holds Try.pinned (OpenSpec.upto hmacKeysSpec)

/-- 'samphirelaw03.HmacTells', WHERE WHAT IT READS IS OF BULK AT MOST 1048576: true; the input reads as it did. -/
def hmacTellsUptoRow : OpenClaim := { program := "ytbmpcdpcdljibaa", sum := "82a2e0d3852f2078e538c909f9ab8f92b7db613ed421adba9509a0db4b4a315b", func := "samphire/samphirelaw03.HmacTells", spec := "hmacTells", inPlace := ["internal/abi.NoEscape", "internal/bytealg.MakeNoZero"], apart := false, narrowed := true }
def HmacTellsUptoSaid : Prop := hmacTellsUptoRow.holds Try.pinned (OpenSpec.upto hmacTellsSpec)

/-- 'samphirelaw03.HmacParts', WHERE WHAT IT READS IS OF BULK AT MOST 1048576: true; the input reads as it did. -/
def hmacPartsUptoRow : OpenClaim := { program := "ytbmpcdpcdljibaa", sum := "82a2e0d3852f2078e538c909f9ab8f92b7db613ed421adba9509a0db4b4a315b", func := "samphire/samphirelaw03.HmacParts", spec := "hmacParts", inPlace := ["internal/abi.NoEscape", "internal/bytealg.MakeNoZero"], apart := false, narrowed := true }
def HmacPartsUptoSaid : Prop := hmacPartsUptoRow.holds Try.pinned (OpenSpec.upto hmacPartsSpec)

/-- 'samphirelaw04.HkdfExpands', WHERE WHAT IT READS IS OF BULK AT MOST 1048576: true; the input reads as it did. -/
def hkdfExpandsUptoRow : OpenClaim := { program := "ytbmpcdpcdljibaa", sum := "82a2e0d3852f2078e538c909f9ab8f92b7db613ed421adba9509a0db4b4a315b", func := "samphire/samphirelaw04.HkdfExpands", spec := "hkdfExpands", inPlace := ["internal/abi.NoEscape", "internal/bytealg.MakeNoZero"], apart := false, narrowed := true }
def HkdfExpandsUptoSaid : Prop := hkdfExpandsUptoRow.holds Try.pinned (OpenSpec.upto hkdfExpandsSpec)

/-- 'samphirelaw04.HkdfExtracts', WHERE WHAT IT READS IS OF BULK AT MOST 1048576: true; the input reads as it did. -/
def hkdfExtractsUptoRow : OpenClaim := { program := "ytbmpcdpcdljibaa", sum := "82a2e0d3852f2078e538c909f9ab8f92b7db613ed421adba9509a0db4b4a315b", func := "samphire/samphirelaw04.HkdfExtracts", spec := "hkdfExtracts", inPlace := ["internal/abi.NoEscape", "internal/bytealg.MakeNoZero"], apart := false, narrowed := true }
def HkdfExtractsUptoSaid : Prop := hkdfExtractsUptoRow.holds Try.pinned (OpenSpec.upto hkdfExtractsSpec)

/-- 'samphirelaw04.HkdfDerives', WHERE WHAT IT READS IS OF BULK AT MOST 1048576: true; the input reads as it did. -/
def hkdfDerivesUptoRow : OpenClaim := { program := "ytbmpcdpcdljibaa", sum := "82a2e0d3852f2078e538c909f9ab8f92b7db613ed421adba9509a0db4b4a315b", func := "samphire/samphirelaw04.HkdfDerives", spec := "hkdfDerives", inPlace := ["internal/abi.NoEscape", "internal/bytealg.MakeNoZero"], apart := false, narrowed := true }
def HkdfDerivesUptoSaid : Prop := hkdfDerivesUptoRow.holds Try.pinned (OpenSpec.upto hkdfDerivesSpec)

/-- 'samphirelaw04.HkdfChains', WHERE WHAT IT READS IS OF BULK AT MOST 1048576: true; the input reads as it did. -/
def hkdfChainsUptoRow : OpenClaim := { program := "ytbmpcdpcdljibaa", sum := "82a2e0d3852f2078e538c909f9ab8f92b7db613ed421adba9509a0db4b4a315b", func := "samphire/samphirelaw04.HkdfChains", spec := "hkdfChains", inPlace := ["internal/abi.NoEscape", "internal/bytealg.MakeNoZero"], apart := false, narrowed := true }
def HkdfChainsUptoSaid : Prop := hkdfChainsUptoRow.holds Try.pinned (OpenSpec.upto hkdfChainsSpec)

/-- 'samphirelaw04.HkdfMost', WHERE WHAT IT READS IS OF BULK AT MOST 1048576: true; the input reads as it did. -/
def hkdfMostUptoRow : OpenClaim := { program := "ytbmpcdpcdljibaa", sum := "82a2e0d3852f2078e538c909f9ab8f92b7db613ed421adba9509a0db4b4a315b", func := "samphire/samphirelaw04.HkdfMost", spec := "hkdfMost", inPlace := ["internal/abi.NoEscape", "internal/bytealg.MakeNoZero"], apart := false, narrowed := true }
def HkdfMostUptoSaid : Prop := hkdfMostUptoRow.holds Try.pinned (OpenSpec.upto hkdfMostSpec)

end Rows
end Go.Proofs.Ytbmpcdpcdljibaa
