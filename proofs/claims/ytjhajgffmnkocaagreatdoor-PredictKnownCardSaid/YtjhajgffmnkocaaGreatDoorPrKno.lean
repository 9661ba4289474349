import Derived.Test.YtjhajgffmnkocaaGreatDoorPq45
namespace Go.Proofs.YtjhajgffmnkocaaGreatDoor
open Go Go.RowKit Go.Shelf
attribute [local go_sem] aO aM

def sKnD : ByteArray := ⟨#[231, 137, 161, 232, 160, 163]⟩
def kn38a : List Gs := [⟨kB, sC, -4⟩]
def kn38c : List Gs := [⟨kA, sA, -2⟩]
def kn38g : List Gs := [⟨kB, sC, 746⟩]
def kn38h : List Gs := [⟨kB, sC, -4⟩, ⟨kB, sKnD, -50⟩]
def cntG : List Cnt := [⟨⟨#[50, 231, 167, 145, 0, 230, 159, 191]⟩, 65536⟩]
def cntH : List Cnt := [⟨⟨#[49, 227, 129, 139, 227, 129, 141, 0, 231, 137, 161, 232, 160, 163]⟩, 65536⟩]
theorem ev_kna : sW kP0 [] kB ⟨#[]⟩ 5 = kn38a := by decide +kernel
theorem ev_knc : sW kP0 [] kA ⟨#[]⟩ 1 = kn38c := by decide +kernel
theorem ev_knf : sW kP0 [] ⟨#[]⟩ ⟨#[]⟩ 5 = [] := by decide +kernel
theorem ev_kng : sW kP0 cntG ⟨#[]⟩ sA 5 = kn38g := by decide +kernel
theorem ev_knh : sW kP0 cntH kB ⟨#[]⟩ 5 = kn38h := by decide +kernel
theorem ev_knp : qW kn38h kB sKnD = 1 := by decide +kernel
theorem cntG_ok : ∀ c ∈ cntG, uM0 c := fun c hc => by
  rw [List.mem_singleton.1 hc]
  exact ⟨by decide, xR0 (n := 65536) (by decide) (by decide)⟩
theorem cntH_ok : ∀ c ∈ cntH, uM0 c := fun c hc => by
  rw [List.mem_singleton.1 hc]
  exact ⟨by decide, xR0 (n := 65536) (by decide) (by decide)⟩
set_option maxHeartbeats 8000000 in
set_option maxRecDepth 100000 in
theorem kno38_any (w : World) (he : Env w) : Calls Tryz.prog 10 #[] w fun e w' => e = .returned (.bool true) ∧ aB w w' := by
  have CO := fun (A : oI0) (u : World) (hu : aB w u) (hA : fE0 u A pY0) => Lib.hid (uZ0 A u (he.grows hu) hA)
  have CP := fun (cs : List Cnt) (pf pv : ByteArray) (q : Int) (hco : ∀ c ∈ cs, uM0 c) (hcl : cs.length ≤ 1048576) (hcz : ∀ c ∈ cs, c.k.size ≤ 1048576) (hpf : pf.size ≤ 1048576) (hpv : pv.size ≤ 1048576) (db : Nat) (a : Option Addr) (c : Nat) (u : World) (hu : aB w u) (hd : fA u db xH iH0 kP0) (hca : aG u a 2 (cs.map kC)) => Lib.hid (lI0 xH iH0 kP0 db cs a c pf pv q u (he.grows hu) wD0 hd hcl hco hcz hca hpf hpv)
  have CA := fun db u hu hd => CP [] kB ⟨#[]⟩ 5 (fun x hx => by cases hx) (by decide) (fun x hx => by cases hx) (by decide) (by decide) db none 0 u hu hd (aG.nil _ _ _)
  have CC := fun db u hu hd => CP [] kA ⟨#[]⟩ 1 (fun x hx => by cases hx) (by decide) (fun x hx => by cases hx) (by decide) (by decide) db none 0 u hu hd (aG.nil _ _ _)
  have CF := fun db u hu hd => CP [] ⟨#[]⟩ ⟨#[]⟩ 5 (fun x hx => by cases hx) (by decide) (fun x hx => by cases hx) (by decide) (by decide) db none 0 u hu hd (aG.nil _ _ _)
  have CG := CP cntG ⟨#[]⟩ sA 5 cntG_ok (by decide) (by decide) (by decide) (by decide)
  have CH := CP cntH kB ⟨#[]⟩ 5 cntH_ok (by decide) (by decide) (by decide) (by decide)
  rw [ev_kna] at CA
  rw [ev_knc] at CC
  rw [ev_knf] at CF
  rw [ev_kng] at CG
  rw [ev_knh] at CH
  have CN := fun (u : World) => Lib.hid (iC0 65536 u (xR0 (by decide) (by decide)))
  rw [dH1] at CN
  have CW := fun (u : World) (hu : aB w u) => Lib.hid (works38_any u (he.grows hu))
  unfold kB at CA CH
  unfold kA at CC
  unfold sA at CG
  clear he CP
  go_enter Tryz.func10, Tryz.ntmps10
  go_wp2_with fail
  refine (eR0 w).mono ?_
  rintro e w1 ⟨A, rfl, hA, hg1⟩
  have CO2 := CO A w1 hg1 hA
  clear CO hA
  go_wp2_with fail
  refine CO2.out.mono ?_
  rintro e w2 ⟨db, rfl, hd, hg2⟩
  have g2 := hg1.tr hg2
  have CN2 := CN w2
  clear CO2 CN
  go_wp2_with fail
  refine CN2.out.mono ?_
  rintro e wq ⟨rfl, hq⟩
  rw [hq]
  clear CN2 hq
  have D3 := CA db w2 g2 hd
  go_wp2_with fail
  refine D3.out.mono ?_
  rintro e w3 ⟨v3, rfl, hv3, hg3⟩
  obtain ⟨a3, c3, rfl, _, _, hat3⟩ := hv3.at_ eN1.len
  rw [show kn38a.length = 1 from rfl]
  clear hv3
  have D4 := CC db w3 (g2.tr hg3) (hd.grows hg3)
  go_wp2_with fail
  refine D4.out.mono ?_
  rintro e w4 ⟨v4, rfl, hv4, hg4⟩
  obtain ⟨a4, c4, rfl, _, _, hat4⟩ := hv4.at_ eN1.len
  rw [show kn38c.length = 1 from rfl]
  clear hv4
  have D5 := CF db w4 ((g2.tr hg3).tr hg4) (hd.grows (hg3.tr hg4))
  go_wp2_with fail
  refine D5.out.mono ?_
  rintro e w5 ⟨v5, rfl, hv5, hg5⟩
  obtain ⟨a5, c5, rfl, _, _, hat5⟩ := hv5.at_ eN1.len
  rw [show ([] : List Gs).length = 0 from rfl]
  clear hv5
  have g5 := ((g2.tr hg3).tr hg4).tr hg5
  have hd5 := hd.grows ((hg3.tr hg4).tr hg5)
  clear D3 D4 D5 CA CC CF
  obtain ⟨U6, hU6⟩ := exq (w5.alloc (.cells #[.string ⟨#[50, 231, 167, 145, 0, 230, 159, 191]⟩, .int .i64 65536] 58))
  obtain ⟨n6, hn6⟩ := exq w5.heap.size
  have gU6 : aB w5 U6 := by rw [hU6]; exact aB.alloc _ _
  have hC6 : aG U6 (some ⟨n6, 0, none⟩) 2 (cntG.map kC) := by rw [hU6, hn6]; exact oZ (enc := kC) (k := 2) (w := w5) (t := 58) (fz := (0, 0)) (cs := (cntG.flatMap kC).toArray) (fun _ => rfl) cntG rfl
  have D6 := CG db (some ⟨n6, 0, none⟩) 1 U6 (g5.tr gU6) (hd5.grows gU6) hC6
  rw [show cntG.length = 1 from rfl] at D6
  have HU6 := Lib.hid (And.intro hU6 hn6)
  clear hU6 hn6 hC6
  go_wp2_with fail
  rw [← HU6.out.1, ← HU6.out.2]
  refine D6.out.mono ?_
  rintro e w6 ⟨v6, rfl, hv6, hg6⟩
  obtain ⟨a6, c6, rfl, _, _, hat6⟩ := hv6.at_ eN1.len
  rw [show kn38g.length = 1 from rfl]
  clear hv6
  have g6 := (g5.tr gU6).tr hg6
  have hd6 := hd5.grows (gU6.tr hg6)
  clear D6 CG HU6
  obtain ⟨U7, hU7⟩ := exq (w6.alloc (.cells #[.string ⟨#[49, 227, 129, 139, 227, 129, 141, 0, 231, 137, 161, 232, 160, 163]⟩, .int .i64 65536] 58))
  obtain ⟨n7, hn7⟩ := exq w6.heap.size
  have gU7 : aB w6 U7 := by rw [hU7]; exact aB.alloc _ _
  have hC7 : aG U7 (some ⟨n7, 0, none⟩) 2 (cntH.map kC) := by rw [hU7, hn7]; exact oZ (enc := kC) (k := 2) (w := w6) (t := 58) (fz := (0, 0)) (cs := (cntH.flatMap kC).toArray) (fun _ => rfl) cntH rfl
  have D7 := CH db (some ⟨n7, 0, none⟩) 1 U7 (g6.tr gU7) (hd6.grows gU7) hC7
  rw [show cntH.length = 1 from rfl] at D7
  have HU7 := Lib.hid (And.intro hU7 hn7)
  clear hU7 hn7 hC7
  go_wp2_with fail
  rw [← HU7.out.1, ← HU7.out.2]
  refine D7.out.mono ?_
  rintro e w7 ⟨v7, rfl, hv7, hg7⟩
  obtain ⟨a7, c7, rfl, _, _, hat7⟩ := hv7.at_ eN1.len
  rw [show kn38h.length = 2 from rfl]
  clear hv7
  have g7 := (g6.tr gU7).tr hg7
  have hd7 := hd6.grows (gU7.tr hg7)
  have D8 := Lib.hid (place_any kn38h a7 c7 kB sKnD w7 (by decide) hat7)
  rw [show kn38h.length = 2 from rfl, ev_knp] at D8
  unfold kB sKnD at D8
  clear D7 CH HU7
  go_wp2_with fail
  refine D8.out.mono ?_
  rintro e w8 ⟨rfl, hg8⟩
  have g8 := g7.tr hg8
  have G38 : aB w3 w8 := hg4.tr (hg5.tr (gU6.tr (hg6.tr (gU7.tr (hg7.tr hg8)))))
  have G48 : aB w4 w8 := hg5.tr (gU6.tr (hg6.tr (gU7.tr (hg7.tr hg8))))
  have G68 : aB w6 w8 := gU7.tr (hg7.tr hg8)
  have hat3 := hat3.grows G38
  have hat4 := hat4.grows G48
  have hat6 := hat6.grows G68
  have hat7 := hat7.grows hg8
  clear D8
  obtain ⟨S11, hS11⟩ := exq (w8.alloc (.cells #[.string sC] 9))
  obtain ⟨T11, hT11⟩ := exq (S11.alloc (.cells #[.int .i64 (-4)] 3))
  obtain ⟨p11, hp11⟩ := exq w8.heap.size
  have gS11 : aB w8 S11 := by rw [hS11]; exact aB.alloc _ _
  have gT11 : aB S11 T11 := by rw [hT11]; exact aB.alloc _ _
  have zS11 : S11.heap.size = p11 + 1 := by rw [hS11, hp11]; simp
  have x11 : aG T11 (some ⟨p11, 0, none⟩) 1 (kn38a.map fun x => [.string x.s]) := by
    have h : aG S11 (some ⟨p11, 0, none⟩) 1 (kn38a.map fun x => [.string x.s]) := by rw [hS11, hp11]; exact oZ (enc := fun x : Gs => [.string x.s]) (k := 1) (w := w8) (t := 9) (fz := (0, 0)) (cs := (kn38a.flatMap fun x => [.string x.s]).toArray) (fun _ => rfl) kn38a rfl
    exact h.grows gT11
  have y11 : aG T11 (some ⟨p11 + 1, 0, none⟩) 1 (kn38a.map fun x => [.int .i64 x.c]) := by rw [hT11, ← zS11]; exact oZ (enc := fun x : Gs => [.int .i64 x.c]) (k := 1) (w := S11) (t := 3) (fz := (0, 0)) (cs := (kn38a.flatMap fun x => [.int .i64 x.c]).toArray) (fun _ => rfl) kn38a rfl
  have E11 := Lib.hid (iV1 kn38a a3 (some ⟨p11, 0, none⟩) (some ⟨p11 + 1, 0, none⟩) c3 1 1 T11 (by decide) (hat3.grows (gS11.tr gT11)) x11 y11)
  rw [show kn38a.length = 1 from rfl] at E11
  have HS11 := Lib.hid (And.intro hS11 (And.intro hT11 hp11))
  try unfold sA at HS11
  try unfold sC at HS11
  clear hS11 hT11 hp11 x11 y11 zS11
  go_wp2_with fail
  rw [← HS11.out.2.2, ← HS11.out.1, ← HS11.out.2.1]
  refine E11.out.mono ?_
  rintro e w11 ⟨rfl, hg11⟩
  have h11 : aB w8 w11 := gS11.tr (gT11.tr hg11)
  clear E11 HS11
  obtain ⟨S12, hS12⟩ := exq (w11.alloc (.cells #[.string sA] 9))
  obtain ⟨T12, hT12⟩ := exq (S12.alloc (.cells #[.int .i64 (-2)] 3))
  obtain ⟨p12, hp12⟩ := exq w11.heap.size
  have gS12 : aB w11 S12 := by rw [hS12]; exact aB.alloc _ _
  have gT12 : aB S12 T12 := by rw [hT12]; exact aB.alloc _ _
  have zS12 : S12.heap.size = p12 + 1 := by rw [hS12, hp12]; simp
  have x12 : aG T12 (some ⟨p12, 0, none⟩) 1 (kn38c.map fun x => [.string x.s]) := by
    have h : aG S12 (some ⟨p12, 0, none⟩) 1 (kn38c.map fun x => [.string x.s]) := by rw [hS12, hp12]; exact oZ (enc := fun x : Gs => [.string x.s]) (k := 1) (w := w11) (t := 9) (fz := (0, 0)) (cs := (kn38c.flatMap fun x => [.string x.s]).toArray) (fun _ => rfl) kn38c rfl
    exact h.grows gT12
  have y12 : aG T12 (some ⟨p12 + 1, 0, none⟩) 1 (kn38c.map fun x => [.int .i64 x.c]) := by rw [hT12, ← zS12]; exact oZ (enc := fun x : Gs => [.int .i64 x.c]) (k := 1) (w := S12) (t := 3) (fz := (0, 0)) (cs := (kn38c.flatMap fun x => [.int .i64 x.c]).toArray) (fun _ => rfl) kn38c rfl
  have E12 := Lib.hid (iV1 kn38c a4 (some ⟨p12, 0, none⟩) (some ⟨p12 + 1, 0, none⟩) c4 1 1 T12 (by decide) (hat4.grows (h11.tr (gS12.tr gT12))) x12 y12)
  rw [show kn38c.length = 1 from rfl] at E12
  have HS12 := Lib.hid (And.intro hS12 (And.intro hT12 hp12))
  try unfold sA at HS12
  try unfold sC at HS12
  clear hS12 hT12 hp12 x12 y12 zS12
  go_wp2_with fail
  rw [← HS12.out.2.2, ← HS12.out.1, ← HS12.out.2.1]
  refine E12.out.mono ?_
  rintro e w12 ⟨rfl, hg12⟩
  have h12 : aB w11 w12 := gS12.tr (gT12.tr hg12)
  clear E12 HS12
  obtain ⟨S13, hS13⟩ := exq (w12.alloc (.cells #[.string sC] 9))
  obtain ⟨T13, hT13⟩ := exq (S13.alloc (.cells #[.int .i64 746] 3))
  obtain ⟨p13, hp13⟩ := exq w12.heap.size
  have gS13 : aB w12 S13 := by rw [hS13]; exact aB.alloc _ _
  have gT13 : aB S13 T13 := by rw [hT13]; exact aB.alloc _ _
  have zS13 : S13.heap.size = p13 + 1 := by rw [hS13, hp13]; simp
  have x13 : aG T13 (some ⟨p13, 0, none⟩) 1 (kn38g.map fun x => [.string x.s]) := by
    have h : aG S13 (some ⟨p13, 0, none⟩) 1 (kn38g.map fun x => [.string x.s]) := by rw [hS13, hp13]; exact oZ (enc := fun x : Gs => [.string x.s]) (k := 1) (w := w12) (t := 9) (fz := (0, 0)) (cs := (kn38g.flatMap fun x => [.string x.s]).toArray) (fun _ => rfl) kn38g rfl
    exact h.grows gT13
  have y13 : aG T13 (some ⟨p13 + 1, 0, none⟩) 1 (kn38g.map fun x => [.int .i64 x.c]) := by rw [hT13, ← zS13]; exact oZ (enc := fun x : Gs => [.int .i64 x.c]) (k := 1) (w := S13) (t := 3) (fz := (0, 0)) (cs := (kn38g.flatMap fun x => [.int .i64 x.c]).toArray) (fun _ => rfl) kn38g rfl
  have E13 := Lib.hid (iV1 kn38g a6 (some ⟨p13, 0, none⟩) (some ⟨p13 + 1, 0, none⟩) c6 1 1 T13 (by decide) (hat6.grows ((h11.tr h12).tr (gS13.tr gT13))) x13 y13)
  rw [show kn38g.length = 1 from rfl] at E13
  have HS13 := Lib.hid (And.intro hS13 (And.intro hT13 hp13))
  try unfold sA at HS13
  try unfold sC at HS13
  clear hS13 hT13 hp13 x13 y13 zS13
  go_wp2_with fail
  rw [← HS13.out.2.2, ← HS13.out.1, ← HS13.out.2.1]
  refine E13.out.mono ?_
  rintro e w13 ⟨rfl, hg13⟩
  have h13 : aB w12 w13 := gS13.tr (gT13.tr hg13)
  clear E13 HS13
  have hat7 := hat7.grows (h11.tr (h12.tr h13))
  obtain ⟨ba, oa, rfl, hca⟩ := hat7.get (enc := gI) (by decide)
  have z2 : w13.cell? ⟨ba, oa + 1 * 3 + 2, none⟩ = some (.int .i64 (-50)) := hca 1 _ rfl 2 _ rfl
  have CW6 := CW w13 (g8.tr (h11.tr (h12.tr h13)))
  have HG6 := Lib.hid (g8.tr (h11.tr (h12.tr h13)))
  clear CW hca
  go_wp2_with fail
  refine CW6.out.mono ?_
  rintro e w14 ⟨rfl, hg14⟩
  have HG7 := Lib.hid (HG6.out.tr hg14)
  clear CW6 hg14
  go_wp2_with fail
  go_ret
  exact ⟨rfl, HG7.out⟩
end Go.Proofs.YtjhajgffmnkocaaGreatDoor
