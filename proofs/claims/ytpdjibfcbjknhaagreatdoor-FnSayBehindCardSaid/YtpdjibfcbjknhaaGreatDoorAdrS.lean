/- Sharper bounds for the texts of addresses. -/
import Derived.Test.YtpdjibfcbjknhaaGreatDoorGN
namespace Go.Proofs.YtpdjibfcbjknhaaGreatDoor
open Go.RowKit
theorem quadText_len15 {xs : List Int} (h : quadOk xs = true) : (quadText xs).length ≤ 15 := by
  have hb := (quad_bytes h).2
  have b0 := hb 0 (by omega)
  have b1 := hb 1 (by omega)
  have b2 := hb 2 (by omega)
  have b3 := hb 3 (by omega)
  have z0 := dec_len_le 2 (nth xs 0).toNat (by omega)
  have z1 := dec_len_le 2 (nth xs 1).toNat (by omega)
  have z2 := dec_len_le 2 (nth xs 2).toNat (by omega)
  have z3 := dec_len_le 2 (nth xs 3).toNat (by omega)
  simp [quadText]; omega
theorem hostText_len20 {a : Adr} (h : adrOk a = true) : (hostText a).length ≤ 20 := by
  rcases adr_kind h with ⟨h1, h2, _⟩ | ⟨h1, h2, _⟩
  · rw [hostText, if_pos h1]; have := quadText_len15 h2; omega
  · rw [hostText, if_neg (by omega)]; exact nameOk_len h2
theorem addrText_len26 {a : Adr} (h : adrOk a = true) : (addrText a).length ≤ 26 := by
  have h1 := hostText_len20 h
  have h2 := adr_port h
  have h3 := dec_len_le 4 a.port.toNat (by omega)
  simp [addrText]; omega
theorem connText_len81 {a : Adr} (h : adrOk a = true) : (connText (addrText a)).length ≤ 81 := by
  have h1 := addrText_len26 h
  simp [connText, tunnelT, httpT]; omega
end Go.Proofs.YtpdjibfcbjknhaaGreatDoor
