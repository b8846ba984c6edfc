/-
  DERIVED. GIVEN WITH THE SEED: THE CARDS: each row of YtbgpobiaaebbeaaDoorRows.lean that lists a variable, with what it lists TIED to the program's text (the seventh form; the later family's looks); each row that meets fmt, with fmt's text TOLD by the authors' own Lean function (tested against real Go, not proved from fmt's source: count such statements apart). THE CARD IS WHAT COUNTS. Prove the row's statement (the work); the ties are given (YtbgpobiaaebbeaaDoorTie.lean); close each card by the builder's one call (the guide's Derived/Test/ToyasCard.lean, 'card_holds'). Laid BY PROGRAM, IN A SANDBOX (cutbox-door.mjs). By AI agents, Wed Nov 11 2026. No macro, syntax, notation, axiom, sorry.
-/
import Derived.Test.YtbgpobiaaebbeaaDoorRows
import GoSem.ClaimSeven
namespace Go.Proofs.YtbgpobiaaebbeaaDoor
namespace Rows

/-- THE TIED CARD OF 'laws.FnExactValidTrack'. -/
def fnExactValidTrackCard : Claim7 := { stood := { row := fnExactValidTrackRow, standIns := [], harness := (true, "8fd3c8d3dcc3dbca1d1f5da717450528ff60a4bd5c4dbb8c9884d48334ba0dc4"), looks := true }, kinds := [], alts := [], laidByText := true, laidKinds := [.data, .pinned], laidTests := true, laidLooks := .later }
def FnExactValidTrackCardSaid : Prop := Claim7.holds Tryd.pinned (.plain (OpenSpec.ofChange fnExactValidTrackSpec)) fnExactValidTrackCard

/-- THE TIED CARD OF 'laws.FnExactPlacesText'. -/
def fnExactPlacesTextCard : Claim7 := { stood := { row := fnExactPlacesTextRow, standIns := [], harness := (true, "8fd3c8d3dcc3dbca1d1f5da717450528ff60a4bd5c4dbb8c9884d48334ba0dc4"), looks := true }, kinds := [], alts := [], laidByText := true, laidKinds := [.data, .data, .data], laidTests := true, laidLooks := .later }
def FnExactPlacesTextCardSaid : Prop := Claim7.holds Tryd.pinned (.plain (OpenSpec.ofChange fnExactPlacesTextSpec)) fnExactPlacesTextCard

/-- THE TIED CARD OF 'laws.FnExactGridText'. -/
def fnExactGridTextCard : Claim7 := { stood := { row := fnExactGridTextRow, standIns := [], harness := (true, "8fd3c8d3dcc3dbca1d1f5da717450528ff60a4bd5c4dbb8c9884d48334ba0dc4"), looks := true }, kinds := [], alts := [], laidByText := true, laidKinds := [.data, .data, .data], laidTests := true, laidLooks := .later }
def FnExactGridTextCardSaid : Prop := Claim7.holds Tryd.pinned (.plain (OpenSpec.ofChange fnExactGridTextSpec)) fnExactGridTextCard

/-- THE TIED CARD OF 'laws.FnExactRecoverJournal'. -/
def fnExactRecoverJournalCard : Claim7 := { stood := { row := fnExactRecoverJournalRow, standIns := [], harness := (true, "8fd3c8d3dcc3dbca1d1f5da717450528ff60a4bd5c4dbb8c9884d48334ba0dc4"), looks := true }, kinds := [], alts := [], laidByText := true, laidKinds := [.data, .data, .data], laidTests := true, laidLooks := .later }
def FnExactRecoverJournalCardSaid : Prop := Claim7.holds Tryd.pinned (.plain (OpenSpec.ofChange fnExactRecoverJournalSpec)) fnExactRecoverJournalCard

/-- THE TIED CARD OF 'laws.FnExactStoreTrack'. -/
def fnExactStoreTrackCard : Claim7 := { stood := { row := fnExactStoreTrackRow, standIns := [], harness := (true, "8fd3c8d3dcc3dbca1d1f5da717450528ff60a4bd5c4dbb8c9884d48334ba0dc4"), looks := true }, kinds := [], alts := [], laidByText := true, laidKinds := [.data, .pinned], laidTests := true, laidLooks := .later }
def FnExactStoreTrackCardSaid : Prop := Claim7.holds Tryd.pinned (.plain (OpenSpec.ofChange fnExactStoreTrackSpec)) fnExactStoreTrackCard

/-- THE TIED CARD OF 'laws.FnExactStoreTracks'. -/
def fnExactStoreTracksCard : Claim7 := { stood := { row := fnExactStoreTracksRow, standIns := [], harness := (true, "8fd3c8d3dcc3dbca1d1f5da717450528ff60a4bd5c4dbb8c9884d48334ba0dc4"), looks := true }, kinds := [], alts := [], laidByText := true, laidKinds := [.data, .pinned], laidTests := true, laidLooks := .later }
def FnExactStoreTracksCardSaid : Prop := Claim7.holds Tryd.pinned (.plain (OpenSpec.ofChange fnExactStoreTracksSpec)) fnExactStoreTracksCard

/-- THE TIED CARD OF 'laws.FnExactReadPlaces'. -/
def fnExactReadPlacesCard : Claim7 := { stood := { row := fnExactReadPlacesRow, standIns := [], harness := (true, "8fd3c8d3dcc3dbca1d1f5da717450528ff60a4bd5c4dbb8c9884d48334ba0dc4"), looks := true }, kinds := [], alts := [], laidByText := true, laidKinds := [.data, .data, .data, .data, .sentinel, .sentinel, .pinned], laidTests := true, laidLooks := .later }
def FnExactReadPlacesCardSaid : Prop := Claim7.holds Tryd.pinned (.plain (OpenSpec.ofChange fnExactReadPlacesSpec)) fnExactReadPlacesCard

/-- THE SECOND FORM's CARD OF 'laws.FnExactValidTrack'. -/
def fnExactValidTrackUptoCard : Claim7 := { stood := { row := fnExactValidTrackUptoRow, standIns := [], harness := (true, "8fd3c8d3dcc3dbca1d1f5da717450528ff60a4bd5c4dbb8c9884d48334ba0dc4"), looks := true }, kinds := [], alts := [], laidByText := true, laidKinds := [.data, .pinned], laidTests := true, laidLooks := .later }
def FnExactValidTrackUptoCardSaid : Prop := Claim7.holds Tryd.pinned (.plain (OpenSpec.upto fnExactValidTrackSpec)) fnExactValidTrackUptoCard

/-- THE SECOND FORM's CARD OF 'laws.FnExactPlacesText'. -/
def fnExactPlacesTextUptoCard : Claim7 := { stood := { row := fnExactPlacesTextUptoRow, standIns := [], harness := (true, "8fd3c8d3dcc3dbca1d1f5da717450528ff60a4bd5c4dbb8c9884d48334ba0dc4"), looks := true }, kinds := [], alts := [], laidByText := true, laidKinds := [.data, .data, .data], laidTests := true, laidLooks := .later }
def FnExactPlacesTextUptoCardSaid : Prop := Claim7.holds Tryd.pinned (.plain (OpenSpec.upto fnExactPlacesTextSpec)) fnExactPlacesTextUptoCard

/-- THE SECOND FORM's CARD OF 'laws.FnExactGridText'. -/
def fnExactGridTextUptoCard : Claim7 := { stood := { row := fnExactGridTextUptoRow, standIns := [], harness := (true, "8fd3c8d3dcc3dbca1d1f5da717450528ff60a4bd5c4dbb8c9884d48334ba0dc4"), looks := true }, kinds := [], alts := [], laidByText := true, laidKinds := [.data, .data, .data], laidTests := true, laidLooks := .later }
def FnExactGridTextUptoCardSaid : Prop := Claim7.holds Tryd.pinned (.plain (OpenSpec.upto fnExactGridTextSpec)) fnExactGridTextUptoCard

/-- THE SECOND FORM's CARD OF 'laws.FnExactRecoverJournal'. -/
def fnExactRecoverJournalUptoCard : Claim7 := { stood := { row := fnExactRecoverJournalUptoRow, standIns := [], harness := (true, "8fd3c8d3dcc3dbca1d1f5da717450528ff60a4bd5c4dbb8c9884d48334ba0dc4"), looks := true }, kinds := [], alts := [], laidByText := true, laidKinds := [.data, .data, .data], laidTests := true, laidLooks := .later }
def FnExactRecoverJournalUptoCardSaid : Prop := Claim7.holds Tryd.pinned (.plain (OpenSpec.upto fnExactRecoverJournalSpec)) fnExactRecoverJournalUptoCard

/-- THE SECOND FORM's CARD OF 'laws.FnExactStoreTrack'. -/
def fnExactStoreTrackUptoCard : Claim7 := { stood := { row := fnExactStoreTrackUptoRow, standIns := [], harness := (true, "8fd3c8d3dcc3dbca1d1f5da717450528ff60a4bd5c4dbb8c9884d48334ba0dc4"), looks := true }, kinds := [], alts := [], laidByText := true, laidKinds := [.data, .pinned], laidTests := true, laidLooks := .later }
def FnExactStoreTrackUptoCardSaid : Prop := Claim7.holds Tryd.pinned (.plain (OpenSpec.upto fnExactStoreTrackSpec)) fnExactStoreTrackUptoCard

/-- THE SECOND FORM's CARD OF 'laws.FnExactStoreTracks'. -/
def fnExactStoreTracksUptoCard : Claim7 := { stood := { row := fnExactStoreTracksUptoRow, standIns := [], harness := (true, "8fd3c8d3dcc3dbca1d1f5da717450528ff60a4bd5c4dbb8c9884d48334ba0dc4"), looks := true }, kinds := [], alts := [], laidByText := true, laidKinds := [.data, .pinned], laidTests := true, laidLooks := .later }
def FnExactStoreTracksUptoCardSaid : Prop := Claim7.holds Tryd.pinned (.plain (OpenSpec.upto fnExactStoreTracksSpec)) fnExactStoreTracksUptoCard

/-- THE SECOND FORM's CARD OF 'laws.FnExactReadPlaces'. -/
def fnExactReadPlacesUptoCard : Claim7 := { stood := { row := fnExactReadPlacesUptoRow, standIns := [], harness := (true, "8fd3c8d3dcc3dbca1d1f5da717450528ff60a4bd5c4dbb8c9884d48334ba0dc4"), looks := true }, kinds := [], alts := [], laidByText := true, laidKinds := [.data, .data, .data, .data, .sentinel, .sentinel, .pinned], laidTests := true, laidLooks := .later }
def FnExactReadPlacesUptoCardSaid : Prop := Claim7.holds Tryd.pinned (.plain (OpenSpec.upto fnExactReadPlacesSpec)) fnExactReadPlacesUptoCard
end Rows
end Go.Proofs.YtbgpobiaaebbeaaDoor
