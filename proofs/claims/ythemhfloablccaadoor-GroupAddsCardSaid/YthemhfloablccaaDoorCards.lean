/-
  DERIVED. GIVEN WITH THE SEED: THE CARDS: each row of YthemhfloablccaaDoorRows.lean that lists a variable, with what it lists TIED to the program's text (the seventh form; the later family's looks); each row that meets fmt, with fmt's text TOLD by the authors' own Lean function (tested against real Go, not proved from fmt's source: count such statements apart). THE CARD IS WHAT COUNTS. Prove the row's statement (the work); the ties are given (YthemhfloablccaaDoorTie.lean); close each card by the builder's one call (the guide's Derived/Test/ToyasCard.lean, 'card_holds'). Laid BY PROGRAM, IN A SANDBOX (cutbox-door.mjs). By AI agents, Wed Nov 11 2026. No macro, syntax, notation, axiom, sorry.
-/
import Derived.Test.YthemhfloablccaaDoorRows
import GoSem.ClaimSeven
namespace Go.Proofs.YthemhfloablccaaDoor
namespace Rows

/-- THE TIED CARD OF 'samphirelaw20.GroupJudges'. -/
def groupJudgesCard : Claim7 := { stood := { row := groupJudgesRow, standIns := [], harness := (true, "6de1708125d10b6c3ff34507541b8fe4cdfba04076d0595f59cf9381c584508f"), looks := false }, kinds := [], alts := [], laidByText := true, laidKinds := [.data, .pinned], laidTests := true, laidLooks := .later }
def GroupJudgesCardSaid : Prop := Claim7.holds Tryd.pinned (.plain (OpenSpec.ofChange groupJudgesSpec)) groupJudgesCard

/-- THE TIED CARD OF 'samphirelaw20.GroupRises'. -/
def groupRisesCard : Claim7 := { stood := { row := groupRisesRow, standIns := [], harness := (true, "6de1708125d10b6c3ff34507541b8fe4cdfba04076d0595f59cf9381c584508f"), looks := false }, kinds := [], alts := [], laidByText := true, laidKinds := [.data, .pinned], laidTests := true, laidLooks := .later }
def GroupRisesCardSaid : Prop := Claim7.holds Tryd.pinned (.plain (OpenSpec.ofChange groupRisesSpec)) groupRisesCard

/-- THE TIED CARD OF 'samphirelaw20.GroupBytes'. -/
def groupBytesCard : Claim7 := { stood := { row := groupBytesRow, standIns := [], harness := (true, "6de1708125d10b6c3ff34507541b8fe4cdfba04076d0595f59cf9381c584508f"), looks := false }, kinds := [], alts := [], laidByText := true, laidKinds := [.data, .pinned], laidTests := true, laidLooks := .later }
def GroupBytesCardSaid : Prop := Claim7.holds Tryd.pinned (.plain (OpenSpec.ofChange groupBytesSpec)) groupBytesCard

/-- THE TIED CARD OF 'samphirelaw20.GroupFull'. -/
def groupFullCard : Claim7 := { stood := { row := groupFullRow, standIns := [], harness := (true, "6de1708125d10b6c3ff34507541b8fe4cdfba04076d0595f59cf9381c584508f"), looks := false }, kinds := [], alts := [], laidByText := true, laidKinds := [.data, .pinned], laidTests := true, laidLooks := .later }
def GroupFullCardSaid : Prop := Claim7.holds Tryd.pinned (.plain (OpenSpec.ofChange groupFullSpec)) groupFullCard

/-- THE TIED CARD OF 'samphirelaw20.GroupAdds'. -/
def groupAddsCard : Claim7 := { stood := { row := groupAddsRow, standIns := [], harness := (true, "6de1708125d10b6c3ff34507541b8fe4cdfba04076d0595f59cf9381c584508f"), looks := false }, kinds := [], alts := [], laidByText := true, laidKinds := [.data, .pinned], laidTests := true, laidLooks := .later }
def GroupAddsCardSaid : Prop := Claim7.holds Tryd.pinned (.plain (OpenSpec.ofChange groupAddsSpec)) groupAddsCard

/-- THE TIED CARD OF 'samphirelaw19.WireRecords'. -/
def wireRecordsCard : Claim7 := { stood := { row := wireRecordsRow, standIns := [], harness := (true, "6de1708125d10b6c3ff34507541b8fe4cdfba04076d0595f59cf9381c584508f"), looks := false }, kinds := [], alts := [], laidByText := true, laidKinds := [.data, .pinned], laidTests := true, laidLooks := .later }
def WireRecordsCardSaid : Prop := Claim7.holds Tryd.pinned (.plain (OpenSpec.ofChange wireRecordsSpec)) wireRecordsCard

/-- THE TIED CARD OF 'samphirelaw19.WireReads'. -/
def wireReadsCard : Claim7 := { stood := { row := wireReadsRow, standIns := [], harness := (true, "6de1708125d10b6c3ff34507541b8fe4cdfba04076d0595f59cf9381c584508f"), looks := false }, kinds := [], alts := [], laidByText := true, laidKinds := [.data, .pinned], laidTests := true, laidLooks := .later }
def WireReadsCardSaid : Prop := Claim7.holds Tryd.pinned (.plain (OpenSpec.ofChange wireReadsSpec)) wireReadsCard

/-- THE TIED CARD OF 'samphirelaw19.WireFrames'. -/
def wireFramesCard : Claim7 := { stood := { row := wireFramesRow, standIns := [], harness := (true, "6de1708125d10b6c3ff34507541b8fe4cdfba04076d0595f59cf9381c584508f"), looks := false }, kinds := [], alts := [], laidByText := true, laidKinds := [.data, .pinned], laidTests := true, laidLooks := .later }
def WireFramesCardSaid : Prop := Claim7.holds Tryd.pinned (.plain (OpenSpec.ofChange wireFramesSpec)) wireFramesCard

/-- THE TIED CARD OF 'samphirelaw19.WireTakes'. -/
def wireTakesCard : Claim7 := { stood := { row := wireTakesRow, standIns := [], harness := (true, "6de1708125d10b6c3ff34507541b8fe4cdfba04076d0595f59cf9381c584508f"), looks := false }, kinds := [], alts := [], laidByText := true, laidKinds := [.data, .pinned], laidTests := true, laidLooks := .later }
def WireTakesCardSaid : Prop := Claim7.holds Tryd.pinned (.plain (OpenSpec.ofChange wireTakesSpec)) wireTakesCard

/-- THE TIED CARD OF 'samphirelaw19.WireKinds'. -/
def wireKindsCard : Claim7 := { stood := { row := wireKindsRow, standIns := [], harness := (true, "6de1708125d10b6c3ff34507541b8fe4cdfba04076d0595f59cf9381c584508f"), looks := false }, kinds := [], alts := [], laidByText := true, laidKinds := [.data, .pinned], laidTests := true, laidLooks := .later }
def WireKindsCardSaid : Prop := Claim7.holds Tryd.pinned (.plain (OpenSpec.ofChange wireKindsSpec)) wireKindsCard

/-- THE TIED CARD OF 'samphirelaw19.WireMany'. -/
def wireManyCard : Claim7 := { stood := { row := wireManyRow, standIns := [], harness := (true, "6de1708125d10b6c3ff34507541b8fe4cdfba04076d0595f59cf9381c584508f"), looks := false }, kinds := [], alts := [], laidByText := true, laidKinds := [.data, .pinned], laidTests := true, laidLooks := .later }
def WireManyCardSaid : Prop := Claim7.holds Tryd.pinned (.plain (OpenSpec.ofChange wireManySpec)) wireManyCard

/-- THE TIED CARD OF 'samphirelaw19.WireSizes'. -/
def wireSizesCard : Claim7 := { stood := { row := wireSizesRow, standIns := [], harness := (true, "6de1708125d10b6c3ff34507541b8fe4cdfba04076d0595f59cf9381c584508f"), looks := false }, kinds := [], alts := [], laidByText := true, laidKinds := [.data, .pinned], laidTests := true, laidLooks := .later }
def WireSizesCardSaid : Prop := Claim7.holds Tryd.pinned (.plain (OpenSpec.ofChange wireSizesSpec)) wireSizesCard

/-- THE SECOND FORM's CARD OF 'samphirelaw20.GroupJudges'. -/
def groupJudgesUptoCard : Claim7 := { stood := { row := groupJudgesUptoRow, standIns := [], harness := (true, "6de1708125d10b6c3ff34507541b8fe4cdfba04076d0595f59cf9381c584508f"), looks := false }, kinds := [], alts := [], laidByText := true, laidKinds := [.data, .pinned], laidTests := true, laidLooks := .later }
def GroupJudgesUptoCardSaid : Prop := Claim7.holds Tryd.pinned (.plain (OpenSpec.upto groupJudgesSpec)) groupJudgesUptoCard

/-- THE SECOND FORM's CARD OF 'samphirelaw20.GroupRises'. -/
def groupRisesUptoCard : Claim7 := { stood := { row := groupRisesUptoRow, standIns := [], harness := (true, "6de1708125d10b6c3ff34507541b8fe4cdfba04076d0595f59cf9381c584508f"), looks := false }, kinds := [], alts := [], laidByText := true, laidKinds := [.data, .pinned], laidTests := true, laidLooks := .later }
def GroupRisesUptoCardSaid : Prop := Claim7.holds Tryd.pinned (.plain (OpenSpec.upto groupRisesSpec)) groupRisesUptoCard

/-- THE SECOND FORM's CARD OF 'samphirelaw20.GroupBytes'. -/
def groupBytesUptoCard : Claim7 := { stood := { row := groupBytesUptoRow, standIns := [], harness := (true, "6de1708125d10b6c3ff34507541b8fe4cdfba04076d0595f59cf9381c584508f"), looks := false }, kinds := [], alts := [], laidByText := true, laidKinds := [.data, .pinned], laidTests := true, laidLooks := .later }
def GroupBytesUptoCardSaid : Prop := Claim7.holds Tryd.pinned (.plain (OpenSpec.upto groupBytesSpec)) groupBytesUptoCard

/-- THE SECOND FORM's CARD OF 'samphirelaw20.GroupFull'. -/
def groupFullUptoCard : Claim7 := { stood := { row := groupFullUptoRow, standIns := [], harness := (true, "6de1708125d10b6c3ff34507541b8fe4cdfba04076d0595f59cf9381c584508f"), looks := false }, kinds := [], alts := [], laidByText := true, laidKinds := [.data, .pinned], laidTests := true, laidLooks := .later }
def GroupFullUptoCardSaid : Prop := Claim7.holds Tryd.pinned (.plain (OpenSpec.upto groupFullSpec)) groupFullUptoCard

/-- THE SECOND FORM's CARD OF 'samphirelaw20.GroupAdds'. -/
def groupAddsUptoCard : Claim7 := { stood := { row := groupAddsUptoRow, standIns := [], harness := (true, "6de1708125d10b6c3ff34507541b8fe4cdfba04076d0595f59cf9381c584508f"), looks := false }, kinds := [], alts := [], laidByText := true, laidKinds := [.data, .pinned], laidTests := true, laidLooks := .later }
def GroupAddsUptoCardSaid : Prop := Claim7.holds Tryd.pinned (.plain (OpenSpec.upto groupAddsSpec)) groupAddsUptoCard

/-- THE SECOND FORM's CARD OF 'samphirelaw19.WireRecords'. -/
def wireRecordsUptoCard : Claim7 := { stood := { row := wireRecordsUptoRow, standIns := [], harness := (true, "6de1708125d10b6c3ff34507541b8fe4cdfba04076d0595f59cf9381c584508f"), looks := false }, kinds := [], alts := [], laidByText := true, laidKinds := [.data, .pinned], laidTests := true, laidLooks := .later }
def WireRecordsUptoCardSaid : Prop := Claim7.holds Tryd.pinned (.plain (OpenSpec.upto wireRecordsSpec)) wireRecordsUptoCard

/-- THE SECOND FORM's CARD OF 'samphirelaw19.WireReads'. -/
def wireReadsUptoCard : Claim7 := { stood := { row := wireReadsUptoRow, standIns := [], harness := (true, "6de1708125d10b6c3ff34507541b8fe4cdfba04076d0595f59cf9381c584508f"), looks := false }, kinds := [], alts := [], laidByText := true, laidKinds := [.data, .pinned], laidTests := true, laidLooks := .later }
def WireReadsUptoCardSaid : Prop := Claim7.holds Tryd.pinned (.plain (OpenSpec.upto wireReadsSpec)) wireReadsUptoCard

/-- THE SECOND FORM's CARD OF 'samphirelaw19.WireFrames'. -/
def wireFramesUptoCard : Claim7 := { stood := { row := wireFramesUptoRow, standIns := [], harness := (true, "6de1708125d10b6c3ff34507541b8fe4cdfba04076d0595f59cf9381c584508f"), looks := false }, kinds := [], alts := [], laidByText := true, laidKinds := [.data, .pinned], laidTests := true, laidLooks := .later }
def WireFramesUptoCardSaid : Prop := Claim7.holds Tryd.pinned (.plain (OpenSpec.upto wireFramesSpec)) wireFramesUptoCard

/-- THE SECOND FORM's CARD OF 'samphirelaw19.WireTakes'. -/
def wireTakesUptoCard : Claim7 := { stood := { row := wireTakesUptoRow, standIns := [], harness := (true, "6de1708125d10b6c3ff34507541b8fe4cdfba04076d0595f59cf9381c584508f"), looks := false }, kinds := [], alts := [], laidByText := true, laidKinds := [.data, .pinned], laidTests := true, laidLooks := .later }
def WireTakesUptoCardSaid : Prop := Claim7.holds Tryd.pinned (.plain (OpenSpec.upto wireTakesSpec)) wireTakesUptoCard

/-- THE SECOND FORM's CARD OF 'samphirelaw19.WireKinds'. -/
def wireKindsUptoCard : Claim7 := { stood := { row := wireKindsUptoRow, standIns := [], harness := (true, "6de1708125d10b6c3ff34507541b8fe4cdfba04076d0595f59cf9381c584508f"), looks := false }, kinds := [], alts := [], laidByText := true, laidKinds := [.data, .pinned], laidTests := true, laidLooks := .later }
def WireKindsUptoCardSaid : Prop := Claim7.holds Tryd.pinned (.plain (OpenSpec.upto wireKindsSpec)) wireKindsUptoCard

/-- THE SECOND FORM's CARD OF 'samphirelaw19.WireMany'. -/
def wireManyUptoCard : Claim7 := { stood := { row := wireManyUptoRow, standIns := [], harness := (true, "6de1708125d10b6c3ff34507541b8fe4cdfba04076d0595f59cf9381c584508f"), looks := false }, kinds := [], alts := [], laidByText := true, laidKinds := [.data, .pinned], laidTests := true, laidLooks := .later }
def WireManyUptoCardSaid : Prop := Claim7.holds Tryd.pinned (.plain (OpenSpec.upto wireManySpec)) wireManyUptoCard

/-- THE SECOND FORM's CARD OF 'samphirelaw19.WireSizes'. -/
def wireSizesUptoCard : Claim7 := { stood := { row := wireSizesUptoRow, standIns := [], harness := (true, "6de1708125d10b6c3ff34507541b8fe4cdfba04076d0595f59cf9381c584508f"), looks := false }, kinds := [], alts := [], laidByText := true, laidKinds := [.data, .pinned], laidTests := true, laidLooks := .later }
def WireSizesUptoCardSaid : Prop := Claim7.holds Tryd.pinned (.plain (OpenSpec.upto wireSizesSpec)) wireSizesUptoCard
end Rows
end Go.Proofs.YthemhfloablccaaDoor
