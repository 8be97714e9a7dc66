/-
  DERIVED. GIVEN WITH THE SEED: THE CARDS: each row of YtinmcdcmidlgpaaGreatDoorRows.lean that lists a variable, with what it lists TIED to the program's text (the seventh form; the later family's looks); each row that meets fmt, with fmt's text TOLD by the authors' own Lean function (tested against real Go, not proved from fmt's source: count such statements apart). THE CARD IS WHAT COUNTS. Prove the row's statement (the work); the ties are given (YtinmcdcmidlgpaaGreatDoorTie.lean); close each card by the builder's one call (the guide's Derived/Test/ToyasCard.lean, 'card_holds'). Laid BY PROGRAM, IN A SANDBOX (cutbox-door.mjs). By AI agents, Wed Nov 11 2026. No macro, syntax, notation, axiom, sorry.
-/
import Derived.Test.YtinmcdcmidlgpaaGreatDoorRows
import GoSem.ClaimSeven
namespace Go.Proofs.YtinmcdcmidlgpaaGreatDoor
namespace Rows

/-- THE TIED CARD OF 'laws.FnExactAskedOf'. -/
def fnExactAskedOfCard : Claim7 := { stood := { row := fnExactAskedOfRow, standIns := [], harness := (true, "ea89987a5bfe5f78ba0024934be074f7888e16f0f8e43af3614311f17668453e"), looks := true }, kinds := [], alts := [], laidByText := true, laidKinds := [.handle, .sentinel], laidTests := true, laidLooks := .later }
def FnExactAskedOfCardSaid : Prop := Claim7.holds Tryz.pinned (.plain (OpenSpec.ofChange fnExactAskedOfSpec)) fnExactAskedOfCard

/-- THE TIED CARD OF 'laws.FnTimesRise'. -/
def fnTimesRiseCard : Claim7 := { stood := { row := fnTimesRiseRow, standIns := [], harness := (true, "ea89987a5bfe5f78ba0024934be074f7888e16f0f8e43af3614311f17668453e"), looks := true }, kinds := [], alts := [], laidByText := true, laidKinds := [.handle, .sentinel], laidTests := true, laidLooks := .later }
def FnTimesRiseCardSaid : Prop := Claim7.holds Tryz.pinned (.plain (OpenSpec.ofChange fnTimesRiseSpec)) fnTimesRiseCard

/-- THE TIED CARD OF 'laws.FnFullBook'. -/
def fnFullBookCard : Claim7 := { stood := { row := fnFullBookRow, standIns := [], harness := (true, "ea89987a5bfe5f78ba0024934be074f7888e16f0f8e43af3614311f17668453e"), looks := true }, kinds := [], alts := [], laidByText := true, laidKinds := [.handle, .sentinel], laidTests := true, laidLooks := .later }
def FnFullBookCardSaid : Prop := Claim7.holds Tryz.pinned (.plain (OpenSpec.ofChange fnFullBookSpec)) fnFullBookCard

/-- THE TIED CARD OF 'laws.FnRing'. -/
def fnRingCard : Claim7 := { stood := { row := fnRingRow, standIns := [], harness := (true, "ea89987a5bfe5f78ba0024934be074f7888e16f0f8e43af3614311f17668453e"), looks := true }, kinds := [], alts := [], laidByText := true, laidKinds := [.handle, .sentinel], laidTests := true, laidLooks := .later }
def FnRingCardSaid : Prop := Claim7.holds Tryz.pinned (.plain (OpenSpec.ofChange fnRingSpec)) fnRingCard

/-- THE TIED CARD OF 'laws.FnDedup'. -/
def fnDedupCard : Claim7 := { stood := { row := fnDedupRow, standIns := [], harness := (true, "ea89987a5bfe5f78ba0024934be074f7888e16f0f8e43af3614311f17668453e"), looks := true }, kinds := [], alts := [], laidByText := true, laidKinds := [.handle, .sentinel], laidTests := true, laidLooks := .later }
def FnDedupCardSaid : Prop := Claim7.holds Tryz.pinned (.plain (OpenSpec.ofChange fnDedupSpec)) fnDedupCard

/-- THE TIED CARD OF 'laws.FnTrims'. -/
def fnTrimsCard : Claim7 := { stood := { row := fnTrimsRow, standIns := [], harness := (true, "ea89987a5bfe5f78ba0024934be074f7888e16f0f8e43af3614311f17668453e"), looks := true }, kinds := [], alts := [], laidByText := true, laidKinds := [.handle, .sentinel], laidTests := true, laidLooks := .later }
def FnTrimsCardSaid : Prop := Claim7.holds Tryz.pinned (.plain (OpenSpec.ofChange fnTrimsSpec)) fnTrimsCard

/-- THE TIED CARD OF 'laws.FnOwed'. -/
def fnOwedCard : Claim7 := { stood := { row := fnOwedRow, standIns := [], harness := (true, "ea89987a5bfe5f78ba0024934be074f7888e16f0f8e43af3614311f17668453e"), looks := true }, kinds := [], alts := [], laidByText := true, laidKinds := [.handle, .sentinel], laidTests := true, laidLooks := .later }
def FnOwedCardSaid : Prop := Claim7.holds Tryz.pinned (.plain (OpenSpec.ofChange fnOwedSpec)) fnOwedCard

/-- THE TIED CARD OF 'laws.FnFeedAll'. -/
def fnFeedAllCard : Claim7 := { stood := { row := fnFeedAllRow, standIns := [], harness := (true, "ea89987a5bfe5f78ba0024934be074f7888e16f0f8e43af3614311f17668453e"), looks := true }, kinds := [], alts := [], laidByText := true, laidKinds := [.handle, .sentinel], laidTests := true, laidLooks := .later }
def FnFeedAllCardSaid : Prop := Claim7.holds Tryz.pinned (.plain (OpenSpec.ofChange fnFeedAllSpec)) fnFeedAllCard

/-- THE TIED CARD OF 'laws.FnLogStays'. -/
def fnLogStaysCard : Claim7 := { stood := { row := fnLogStaysRow, standIns := [], harness := (true, "ea89987a5bfe5f78ba0024934be074f7888e16f0f8e43af3614311f17668453e"), looks := true }, kinds := [], alts := [], laidByText := true, laidKinds := [.handle, .sentinel], laidTests := true, laidLooks := .later }
def FnLogStaysCardSaid : Prop := Claim7.holds Tryz.pinned (.plain (OpenSpec.ofChange fnLogStaysSpec)) fnLogStaysCard

/-- THE SECOND FORM's CARD OF 'laws.FnExactAskedOf'. -/
def fnExactAskedOfUptoCard : Claim7 := { stood := { row := fnExactAskedOfUptoRow, standIns := [], harness := (true, "ea89987a5bfe5f78ba0024934be074f7888e16f0f8e43af3614311f17668453e"), looks := true }, kinds := [], alts := [], laidByText := true, laidKinds := [.handle, .sentinel], laidTests := true, laidLooks := .later }
def FnExactAskedOfUptoCardSaid : Prop := Claim7.holds Tryz.pinned (.plain (OpenSpec.upto fnExactAskedOfSpec)) fnExactAskedOfUptoCard

/-- THE SECOND FORM's CARD OF 'laws.FnTimesRise'. -/
def fnTimesRiseUptoCard : Claim7 := { stood := { row := fnTimesRiseUptoRow, standIns := [], harness := (true, "ea89987a5bfe5f78ba0024934be074f7888e16f0f8e43af3614311f17668453e"), looks := true }, kinds := [], alts := [], laidByText := true, laidKinds := [.handle, .sentinel], laidTests := true, laidLooks := .later }
def FnTimesRiseUptoCardSaid : Prop := Claim7.holds Tryz.pinned (.plain (OpenSpec.upto fnTimesRiseSpec)) fnTimesRiseUptoCard

/-- THE SECOND FORM's CARD OF 'laws.FnFullBook'. -/
def fnFullBookUptoCard : Claim7 := { stood := { row := fnFullBookUptoRow, standIns := [], harness := (true, "ea89987a5bfe5f78ba0024934be074f7888e16f0f8e43af3614311f17668453e"), looks := true }, kinds := [], alts := [], laidByText := true, laidKinds := [.handle, .sentinel], laidTests := true, laidLooks := .later }
def FnFullBookUptoCardSaid : Prop := Claim7.holds Tryz.pinned (.plain (OpenSpec.upto fnFullBookSpec)) fnFullBookUptoCard

/-- THE SECOND FORM's CARD OF 'laws.FnRing'. -/
def fnRingUptoCard : Claim7 := { stood := { row := fnRingUptoRow, standIns := [], harness := (true, "ea89987a5bfe5f78ba0024934be074f7888e16f0f8e43af3614311f17668453e"), looks := true }, kinds := [], alts := [], laidByText := true, laidKinds := [.handle, .sentinel], laidTests := true, laidLooks := .later }
def FnRingUptoCardSaid : Prop := Claim7.holds Tryz.pinned (.plain (OpenSpec.upto fnRingSpec)) fnRingUptoCard

/-- THE SECOND FORM's CARD OF 'laws.FnDedup'. -/
def fnDedupUptoCard : Claim7 := { stood := { row := fnDedupUptoRow, standIns := [], harness := (true, "ea89987a5bfe5f78ba0024934be074f7888e16f0f8e43af3614311f17668453e"), looks := true }, kinds := [], alts := [], laidByText := true, laidKinds := [.handle, .sentinel], laidTests := true, laidLooks := .later }
def FnDedupUptoCardSaid : Prop := Claim7.holds Tryz.pinned (.plain (OpenSpec.upto fnDedupSpec)) fnDedupUptoCard

/-- THE SECOND FORM's CARD OF 'laws.FnTrims'. -/
def fnTrimsUptoCard : Claim7 := { stood := { row := fnTrimsUptoRow, standIns := [], harness := (true, "ea89987a5bfe5f78ba0024934be074f7888e16f0f8e43af3614311f17668453e"), looks := true }, kinds := [], alts := [], laidByText := true, laidKinds := [.handle, .sentinel], laidTests := true, laidLooks := .later }
def FnTrimsUptoCardSaid : Prop := Claim7.holds Tryz.pinned (.plain (OpenSpec.upto fnTrimsSpec)) fnTrimsUptoCard

/-- THE SECOND FORM's CARD OF 'laws.FnOwed'. -/
def fnOwedUptoCard : Claim7 := { stood := { row := fnOwedUptoRow, standIns := [], harness := (true, "ea89987a5bfe5f78ba0024934be074f7888e16f0f8e43af3614311f17668453e"), looks := true }, kinds := [], alts := [], laidByText := true, laidKinds := [.handle, .sentinel], laidTests := true, laidLooks := .later }
def FnOwedUptoCardSaid : Prop := Claim7.holds Tryz.pinned (.plain (OpenSpec.upto fnOwedSpec)) fnOwedUptoCard

/-- THE SECOND FORM's CARD OF 'laws.FnFeedAll'. -/
def fnFeedAllUptoCard : Claim7 := { stood := { row := fnFeedAllUptoRow, standIns := [], harness := (true, "ea89987a5bfe5f78ba0024934be074f7888e16f0f8e43af3614311f17668453e"), looks := true }, kinds := [], alts := [], laidByText := true, laidKinds := [.handle, .sentinel], laidTests := true, laidLooks := .later }
def FnFeedAllUptoCardSaid : Prop := Claim7.holds Tryz.pinned (.plain (OpenSpec.upto fnFeedAllSpec)) fnFeedAllUptoCard

/-- THE SECOND FORM's CARD OF 'laws.FnLogStays'. -/
def fnLogStaysUptoCard : Claim7 := { stood := { row := fnLogStaysUptoRow, standIns := [], harness := (true, "ea89987a5bfe5f78ba0024934be074f7888e16f0f8e43af3614311f17668453e"), looks := true }, kinds := [], alts := [], laidByText := true, laidKinds := [.handle, .sentinel], laidTests := true, laidLooks := .later }
def FnLogStaysUptoCardSaid : Prop := Claim7.holds Tryz.pinned (.plain (OpenSpec.upto fnLogStaysSpec)) fnLogStaysUptoCard
end Rows
end Go.Proofs.YtinmcdcmidlgpaaGreatDoor
