import Derived.Test.YteobbnehdlcphaaDoorQDP0
namespace Go.Proofs.YteobbnehdlcphaaDoor.P
open Go.RowKit Go.Proofs.YteobbnehdlcphaaDoorW.PrintWords Go.Proofs.YteobbnehdlcphaaDoorW.PrintLast Go.Proofs.YteobbnehdlcphaaDoorW.PrintMore
def wordsL : List ByteArray := [⟨#[100, 101, 102]⟩, ⟨#[108, 101, 116]⟩, ⟨#[105, 110]⟩, ⟨#[105, 102]⟩, ⟨#[116, 104, 101, 110]⟩, ⟨#[101, 108, 115, 101]⟩, ⟨#[101, 97, 99, 104]⟩, ⟨#[115, 117, 109]⟩, ⟨#[102, 111, 108, 100]⟩, ⟨#[100, 111, 119, 110]⟩, ⟨#[114, 101, 97, 108]⟩, ⟨#[102, 108, 97, 103]⟩, ⟨#[97, 110, 100]⟩, ⟨#[111, 114]⟩, ⟨#[110, 111, 116]⟩, ⟨#[121, 101, 115]⟩, ⟨#[110, 111]⟩]
def signsL : List ByteArray := [⟨#[45, 62]⟩, ⟨#[60, 61]⟩, ⟨#[40]⟩, ⟨#[41]⟩, ⟨#[91]⟩, ⟨#[93]⟩, ⟨#[123]⟩, ⟨#[125]⟩, ⟨#[44]⟩, ⟨#[58]⟩, ⟨#[59]⟩, ⟨#[61]⟩, ⟨#[60]⟩, ⟨#[43]⟩, ⟨#[45]⟩, ⟨#[42]⟩, ⟨#[47]⟩]
structure GW (w : World) : Prop where
  g0 : ∃ A c, w.cell? ⟨0, 0, none⟩ = some (.slice A wordsL.length c) ∧ Kd.C Kd.string w A wordsL.length wordsL ∧ wordsL.length ≤ c
  g1 : ∃ A c, w.cell? ⟨1, 0, none⟩ = some (.slice A signsL.length c) ∧ Kd.C Kd.string w A signsL.length signsL ∧ signsL.length ≤ c
theorem GW.below {w w1 : World} (h : GW w) (hb : Below w.heap.size w w1) : GW w1 := by
  obtain ⟨A0, c0, h0, r0, l0⟩ := h.g0
  obtain ⟨A1, c1, h1, r1, l1⟩ := h.g1
  exact ⟨⟨A0, c0, pw_cell_below hb h0, Kd.C_below r0 hb, l0⟩, ⟨A1, c1, pw_cell_below hb h1, Kd.C_below r1 hb, l1⟩⟩
theorem GW.drewN {w : World} (h : GW w) (n : Nat) : GW (w.drewN n) := h.below (Drawn0.below ⟨⟨n, rfl⟩⟩)
theorem GW.drew {w : World} (h : GW w) : GW w.drew := h.below ((Below.refl _ _).drew)
end Go.Proofs.YteobbnehdlcphaaDoor.P

