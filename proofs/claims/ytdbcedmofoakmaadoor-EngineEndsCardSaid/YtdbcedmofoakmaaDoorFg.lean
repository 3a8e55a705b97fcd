/- The law: sound, allowed, Turn, Pick. -/
import Derived.Test.YtdbcedmofoakmaaDoorFa
import Derived.Test.YtdbcedmofoakmaaDoorEg2
set_option maxRecDepth 100000
namespace Go.Proofs.YtdbcedmofoakmaaDoor
open Go Go.Sx Go.Eng Go.Proofs.Tryd
def intL (z : Int) : List Value := [.int .i64 z]
theorem amid_t (n lo hi : Int) (h : within n lo hi = true) (w : World) : CallsV Tryd.prog 37 [.int .i64 n, .int .i64 lo, .int .i64 hi] w (.bool true) := callsV_eq (amid_v n lo hi w) (by rw [h])
theorem legal_t (a z lo hi : Int) (h : okSpan a z lo hi = true) (w : World) : CallsV Tryd.prog 51 [.agg ⟨[.int .i64 a, .int .i64 z]⟩, .int .i64 lo, .int .i64 hi] w (.bool true) := callsV_eq (legal_v a z lo hi w) (by rw [h])

theorem sound_v (b : Book) (A : Option Addr) (n cp : Nat) (w : World) (hP : PartsAt w A n b.parts) (hn : n ≤ 140737488351232) :
    CallsV Tryd.prog 32 [.agg ⟨(bookL b A n cp)⟩] w (.bool b.ok) := by
 refine enter (N := 118) (M := []) w func32 rfl rfl rfl (fun Q0 a_0 hQ0 hN0 hs0 => ?_)
 rcases hok : b.ok with _ | _
 · skip
   refine cd_region fun K1 hK1 => ?_
   refine sq rfl (st_box hs0 (Ev.t 0 rfl) rfl rfl rfl fun b2 _ _ hs1 => ?_); clear hs0
   refine sq rfl (st_assign hs1 (.const _) rfl rfl fun _ _ hs2 => ?_); clear hs1
   refine hK1 _ _ ?_; clear hK1
   have hs3 := hs2.keep [0, 1] [_, _] rfl; clear hs2
   refine cd_region fun K3 hK3 => ?_
   refine sq rfl (st_loadA (o := 0) (off := 0) (vs := (bookL b A n cp)) hs3 (Ev.t 1 rfl) rfl rfl isAgg27 sizeOf27 (hs3.cells 0 rfl) rfl fun _ _ hs4 => ?_); clear hs3
   refine sq rfl (st_callv (vs := [.agg ⟨(bookL b A n cp)⟩]) hs4 (.func _) ⟨(Ev.t 0 rfl), trivial⟩ rfl rfl call16 rfl (callsV_eq (v' := .int .i64 40) (check_v b A n cp _ (hP.kp hs4.kp) hn) (by simp [hok])) fun _ _ hs5 => ?_); clear hs4
   refine sq rfl (st_cmp (c := false) hs5 (Ev.t 0 rfl) (.const _) rfl rfl rfl rfl fun _ _ hs6 => ?_); clear hs5
   refine sq rfl (st_move hs6 (Ev.t 0 rfl) rfl rfl fun _ _ hs7 => ?_); clear hs6
   refine sq_off hs7 rfl rfl 0 rfl rfl rfl rfl rfl fun _ _ hs8 => ?_; clear hs7
   refine sq_off hs8 rfl rfl 1 rfl rfl rfl rfl rfl fun _ _ hs9 => ?_; clear hs8
   refine sq_off hs9 rfl rfl 2 rfl rfl rfl rfl rfl fun _ _ hs10 => ?_; clear hs9
   refine sq rfl (st_pick hs10 (Ev.t 3 rfl) rfl rfl (fun h => by cases h) (fun h => (.const _)) fun _ _ hs11 => ?_); clear hs10
   refine sq rfl (st_move hs11 (Ev.t 0 rfl) rfl rfl fun _ _ hs12 => ?_); clear hs11
   refine sq_off hs12 rfl rfl 0 rfl rfl rfl rfl rfl fun _ _ hs13 => ?_; clear hs12
   refine sq_off hs13 rfl rfl 1 rfl rfl rfl rfl rfl fun _ _ hs14 => ?_; clear hs13
   refine sq_off hs14 rfl rfl 2 rfl rfl rfl rfl rfl fun _ _ hs15 => ?_; clear hs14
   refine sq rfl (st_pick hs15 (Ev.t 3 rfl) rfl rfl (fun h => by cases h) (fun h => (.const _)) fun _ _ hs16 => ?_); clear hs15
   refine sq rfl (st_move hs16 (Ev.t 0 rfl) rfl rfl fun _ _ hs17 => ?_); clear hs16
   refine sq_off hs17 rfl rfl 0 rfl rfl rfl rfl rfl fun _ _ hs18 => ?_; clear hs17
   refine sq_off hs18 rfl rfl 1 rfl rfl rfl rfl rfl fun _ _ hs19 => ?_; clear hs18
   refine sq_off hs19 rfl rfl 2 rfl rfl rfl rfl rfl fun _ _ hs20 => ?_; clear hs19
   refine sq_off hs20 rfl rfl 3 rfl rfl rfl rfl rfl fun _ _ hs21 => ?_; clear hs20
   refine sq_off hs21 rfl rfl 4 rfl rfl rfl rfl rfl fun _ _ hs22 => ?_; clear hs21
   refine sq rfl (st_pick hs22 (Ev.t 5 rfl) rfl rfl (fun h => by cases h) (fun h => (.const _)) fun _ _ hs23 => ?_); clear hs22
   refine sq rfl (st_move hs23 (Ev.t 0 rfl) rfl rfl fun _ _ hs24 => ?_); clear hs23
   refine sq_off hs24 rfl rfl 0 rfl rfl rfl rfl rfl fun _ _ hs25 => ?_; clear hs24
   refine sq_off hs25 rfl rfl 1 rfl rfl rfl rfl rfl fun _ _ hs26 => ?_; clear hs25
   refine sq_off hs26 rfl rfl 2 rfl rfl rfl rfl rfl fun _ _ hs27 => ?_; clear hs26
   refine sq_off hs27 rfl rfl 3 rfl rfl rfl rfl rfl fun _ _ hs28 => ?_; clear hs27
   refine sq_off hs28 rfl rfl 4 rfl rfl rfl rfl rfl fun _ _ hs29 => ?_; clear hs28
   refine sq rfl (st_pick hs29 (Ev.t 5 rfl) rfl rfl (fun h => by cases h) (fun h => (.const _)) fun _ _ hs30 => ?_); clear hs29
   refine sq rfl (st_move hs30 (Ev.t 0 rfl) rfl rfl fun _ _ hs31 => ?_); clear hs30
   refine sq_off hs31 rfl rfl 0 rfl rfl rfl rfl rfl fun _ _ hs32 => ?_; clear hs31
   refine sq_off hs32 rfl rfl 1 rfl rfl rfl rfl rfl fun _ _ hs33 => ?_; clear hs32
   refine sq_off hs33 rfl rfl 2 rfl rfl rfl rfl rfl fun _ _ hs34 => ?_; clear hs33
   refine sq rfl (st_pick hs34 (Ev.t 3 rfl) rfl rfl (fun h => by cases h) (fun h => (.const _)) fun _ _ hs35 => ?_); clear hs34
   refine sq rfl (st_move hs35 (Ev.t 0 rfl) rfl rfl fun _ _ hs36 => ?_); clear hs35
   refine sq_off hs36 rfl rfl 0 rfl rfl rfl rfl rfl fun _ _ hs37 => ?_; clear hs36
   refine sq_off hs37 rfl rfl 1 rfl rfl rfl rfl rfl fun _ _ hs38 => ?_; clear hs37
   refine sq_off hs38 rfl rfl 2 rfl rfl rfl rfl rfl fun _ _ hs39 => ?_; clear hs38
   refine sq rfl (st_pick hs39 (Ev.t 3 rfl) rfl rfl (fun h => by cases h) (fun h => (.const _)) fun _ _ hs40 => ?_); clear hs39
   refine sq rfl (st_assign hs40 (Ev.t 0 rfl) rfl rfl fun _ _ hs41 => ?_); clear hs40
   refine hK3 _ _ ?_; clear hK3
   have hs42 := hs41.keep [0, 38, 39] [_, _, _] rfl; clear hs41
   refine cd_region fun K4 hK4 => ?_
   refine sq rfl (st_move hs42 (Ev.t 0 rfl) rfl rfl fun _ _ hs43 => ?_); clear hs42
   refine sq rfl (st_move hs43 (Ev.t 0 rfl) rfl rfl fun _ _ hs44 => ?_); clear hs43
   refine sq_off hs44 rfl rfl 0 rfl rfl rfl rfl rfl fun _ _ hs45 => ?_; clear hs44
   refine sq_off hs45 rfl rfl 1 rfl rfl rfl rfl rfl fun _ _ hs46 => ?_; clear hs45
   refine sq_off hs46 rfl rfl 2 rfl rfl rfl rfl rfl fun _ _ hs47 => ?_; clear hs46
   refine sq rfl (st_pick hs47 (Ev.t 3 rfl) rfl rfl (fun h => by cases h) (fun h => (.const _)) fun _ _ hs48 => ?_); clear hs47
   refine sq rfl (st_move hs48 (Ev.t 0 rfl) rfl rfl fun _ _ hs49 => ?_); clear hs48
   refine sq_off hs49 rfl rfl 0 rfl rfl rfl rfl rfl fun _ _ hs50 => ?_; clear hs49
   refine sq_off hs50 rfl rfl 1 rfl rfl rfl rfl rfl fun _ _ hs51 => ?_; clear hs50
   refine sq_off hs51 rfl rfl 2 rfl rfl rfl rfl rfl fun _ _ hs52 => ?_; clear hs51
   refine sq rfl (st_pick hs52 (Ev.t 3 rfl) rfl rfl (fun h => by cases h) (fun h => (.const _)) fun _ _ hs53 => ?_); clear hs52
   refine sq rfl (st_move hs53 (Ev.t 0 rfl) rfl rfl fun _ _ hs54 => ?_); clear hs53
   refine sq_off hs54 rfl rfl 0 rfl rfl rfl rfl rfl fun _ _ hs55 => ?_; clear hs54
   refine sq_off hs55 rfl rfl 1 rfl rfl rfl rfl rfl fun _ _ hs56 => ?_; clear hs55
   refine sq_off hs56 rfl rfl 2 rfl rfl rfl rfl rfl fun _ _ hs57 => ?_; clear hs56
   refine sq_off hs57 rfl rfl 3 rfl rfl rfl rfl rfl fun _ _ hs58 => ?_; clear hs57
   refine sq_off hs58 rfl rfl 4 rfl rfl rfl rfl rfl fun _ _ hs59 => ?_; clear hs58
   refine sq rfl (st_pick hs59 (Ev.t 5 rfl) rfl rfl (fun h => by cases h) (fun h => (.const _)) fun _ _ hs60 => ?_); clear hs59
   refine sq rfl (st_move hs60 (Ev.t 0 rfl) rfl rfl fun _ _ hs61 => ?_); clear hs60
   refine sq_off hs61 rfl rfl 0 rfl rfl rfl rfl rfl fun _ _ hs62 => ?_; clear hs61
   refine sq_off hs62 rfl rfl 1 rfl rfl rfl rfl rfl fun _ _ hs63 => ?_; clear hs62
   refine sq_off hs63 rfl rfl 2 rfl rfl rfl rfl rfl fun _ _ hs64 => ?_; clear hs63
   refine sq rfl (st_pick hs64 (Ev.t 3 rfl) rfl rfl (fun h => by cases h) (fun h => (.const _)) fun _ _ hs65 => ?_); clear hs64
   refine sq rfl (st_move hs65 (Ev.t 0 rfl) rfl rfl fun _ _ hs66 => ?_); clear hs65
   refine sq_off hs66 rfl rfl 0 rfl rfl rfl rfl rfl fun _ _ hs67 => ?_; clear hs66
   refine sq_off hs67 rfl rfl 1 rfl rfl rfl rfl rfl fun _ _ hs68 => ?_; clear hs67
   refine sq_off hs68 rfl rfl 2 rfl rfl rfl rfl rfl fun _ _ hs69 => ?_; clear hs68
   refine sq_off hs69 rfl rfl 3 rfl rfl rfl rfl rfl fun _ _ hs70 => ?_; clear hs69
   refine sq rfl (st_pick hs70 (Ev.t 4 rfl) rfl rfl (fun h => by cases h) (fun h => (.const _)) fun _ _ hs71 => ?_); clear hs70
   have hs72 := hs71.keep [0, 1, 2, 3, 4, 5, 6, 7, 8, 9, 10, 11, 12, 13, 14, 15, 16, 17, 18, 19, 20, 21, 22, 23, 24, 25, 26, 27, 28, 30, 31] [_, _, _, _, _, _, _, _, _, _, _, _, _, _, _, _, _, _, _, _, _, _, _, _, _, _, _, _, _, _, _] rfl; clear hs71
   refine sq rfl (st_assign hs72 (Ev.t 0 rfl) rfl rfl fun _ _ hs73 => ?_); clear hs72
   refine hK4 _ _ ?_; clear hK4
   have hs74 := hs73.keep [0, 30, 31] [_, _, _] rfl; clear hs73
   refine cd_seq fun K5 hK5 => ?_
   refine cd_region fun K6 hK6 => ?_
   refine sq rfl (st_assign hs74 (.const _) rfl rfl fun _ _ hs75 => ?_); clear hs74
   refine hK6 _ _ ?_; clear hK6
   refine cd_block ?_
   refine cd_rounds 3 ?_
   refine cd_round fun K7 hK7 => ?_
   refine cd_seq fun K8 hK8 => ?_
   refine cd_region fun K9 hK9 => ?_
   refine sq rfl (st_move hs75 (Ev.t 0 rfl) rfl rfl fun _ _ hs76 => ?_); clear hs75
   refine sq rfl (st_cmp (c := true) hs76 (Ev.t 0 rfl) (.const _) rfl rfl rfl rfl fun _ _ hs77 => ?_); clear hs76
   refine hK9 _ _ ?_; clear hK9
   have hs78 := hs77.keep [0, 2, 3, 4, 5] [_, _, _, _, _] rfl; clear hs77
   have hc10 : true = true := rfl
   refine cd_cond hs78 (Ev.t 0 rfl) (fun _ => ?_) (fun h => absurd (hc10.symm.trans h) (by decide))
   refine cd_skip ?_
   refine th_norm (hK8 _ _ ?_)
   refine cd_seq fun K11 hK11 => ?_
   refine cd_block ?_
   refine cd_region1 ?_
   refine sq rfl (st_move hs78 (Ev.t 2 rfl) rfl rfl fun _ _ hs79 => ?_); clear hs78
   refine sq rfl (st_move hs79 (Ev.t 0 rfl) rfl rfl fun _ _ hs80 => ?_); clear hs79
   refine sq_off hs80 rfl rfl 0 rfl rfl rfl rfl rfl fun _ _ hs81 => ?_; clear hs80
   refine sq_off hs81 rfl rfl 1 rfl rfl rfl rfl rfl fun _ _ hs82 => ?_; clear hs81
   refine sq_off hs82 rfl rfl 2 rfl rfl rfl rfl rfl fun _ _ hs83 => ?_; clear hs82
   refine sq_off hs83 rfl rfl 3 rfl rfl rfl rfl rfl fun _ _ hs84 => ?_; clear hs83
   refine sq_off hs84 rfl rfl 4 rfl rfl rfl rfl rfl fun _ _ hs85 => ?_; clear hs84
   refine sq rfl (st_pick hs85 (Ev.t 5 rfl) rfl rfl (fun h => by cases h) (fun h => (.const _)) fun _ _ hs86 => ?_); clear hs85
   refine sq rfl (st_move hs86 (Ev.t 0 rfl) rfl rfl fun _ _ hs87 => ?_); clear hs86
   refine sq_off hs87 rfl rfl 0 rfl rfl rfl rfl rfl fun _ _ hs88 => ?_; clear hs87
   refine sq_off hs88 rfl rfl 1 rfl rfl rfl rfl rfl fun _ _ hs89 => ?_; clear hs88
   refine sq_off hs89 rfl rfl 2 rfl rfl rfl rfl rfl fun _ _ hs90 => ?_; clear hs89
   refine sq_off hs90 rfl rfl 3 rfl rfl rfl rfl rfl fun _ _ hs91 => ?_; clear hs90
   refine sq_off hs91 rfl rfl 4 rfl rfl rfl rfl rfl fun _ _ hs92 => ?_; clear hs91
   refine sq rfl (st_pick hs92 (Ev.t 5 rfl) rfl rfl (fun h => by cases h) (fun h => (.const _)) fun _ _ hs93 => ?_); clear hs92
   have hs94 := hs93.keep [0, 1, 2, 3, 4, 5, 6, 7, 8, 9, 10, 11, 12, 13, 14, 15, 16, 18, 19] [_, _, _, _, _, _, _, _, _, _, _, _, _, _, _, _, _, _, _] rfl; clear hs93
   refine sq rfl (st_assign hs94 (Ev.t 0 rfl) rfl rfl fun _ _ hs95 => ?_); clear hs94
   refine wpListIn_nil ?_
   have hs96 := hs95.keep [0, 17, 18, 19] [_, _, _, _] rfl; clear hs95
   refine in_norm ?_
   refine th_norm (hK11 _ _ ?_)
   refine cd_region1 ?_
   refine sq rfl (st_move hs96 (Ev.t 1 rfl) rfl rfl fun _ _ hs97 => ?_); clear hs96
   refine sq rfl (st_add (z := 1) hs97 (Ev.t 0 rfl) (.const _) rfl rfl rfl (by omega) fun _ _ hs98 => ?_); clear hs97
   have hs99 := hs98.keep [0, 1, 2, 4, 5] [_, _, _, _, _] rfl; clear hs98
   refine sq rfl (st_assign hs99 (Ev.t 0 rfl) rfl rfl fun _ _ hs100 => ?_); clear hs99
   refine wpListIn_nil ?_
   have hs101 := hs100.keep [0, 3, 4, 5] [_, _, _, _] rfl; clear hs100
   refine th_norm (hK7 _ _ ?_); clear hK7
   refine cd_round fun K12 hK12 => ?_
   refine cd_seq fun K13 hK13 => ?_
   refine cd_region fun K14 hK14 => ?_
   refine sq rfl (st_move hs101 (Ev.t 0 rfl) rfl rfl fun _ _ hs102 => ?_); clear hs101
   refine sq rfl (st_cmp (c := true) hs102 (Ev.t 0 rfl) (.const _) rfl rfl rfl rfl fun _ _ hs103 => ?_); clear hs102
   refine hK14 _ _ ?_; clear hK14
   have hs104 := hs103.keep [0, 2, 3, 4, 5] [_, _, _, _, _] rfl; clear hs103
   have hc15 : true = true := rfl
   refine cd_cond hs104 (Ev.t 0 rfl) (fun _ => ?_) (fun h => absurd (hc15.symm.trans h) (by decide))
   refine cd_skip ?_
   refine th_norm (hK13 _ _ ?_)
   refine cd_seq fun K16 hK16 => ?_
   refine cd_block ?_
   refine cd_region1 ?_
   refine sq rfl (st_move hs104 (Ev.t 2 rfl) rfl rfl fun _ _ hs105 => ?_); clear hs104
   refine sq rfl (st_move hs105 (Ev.t 0 rfl) rfl rfl fun _ _ hs106 => ?_); clear hs105
   refine sq_off hs106 rfl rfl 0 rfl rfl rfl rfl rfl fun _ _ hs107 => ?_; clear hs106
   refine sq_off hs107 rfl rfl 1 rfl rfl rfl rfl rfl fun _ _ hs108 => ?_; clear hs107
   refine sq_off hs108 rfl rfl 2 rfl rfl rfl rfl rfl fun _ _ hs109 => ?_; clear hs108
   refine sq_off hs109 rfl rfl 3 rfl rfl rfl rfl rfl fun _ _ hs110 => ?_; clear hs109
   refine sq_off hs110 rfl rfl 4 rfl rfl rfl rfl rfl fun _ _ hs111 => ?_; clear hs110
   refine sq rfl (st_pick hs111 (Ev.t 5 rfl) rfl rfl (fun h => by cases h) (fun h => (.const _)) fun _ _ hs112 => ?_); clear hs111
   refine sq rfl (st_move hs112 (Ev.t 0 rfl) rfl rfl fun _ _ hs113 => ?_); clear hs112
   refine sq_off hs113 rfl rfl 0 rfl rfl rfl rfl rfl fun _ _ hs114 => ?_; clear hs113
   refine sq_off hs114 rfl rfl 1 rfl rfl rfl rfl rfl fun _ _ hs115 => ?_; clear hs114
   refine sq_off hs115 rfl rfl 2 rfl rfl rfl rfl rfl fun _ _ hs116 => ?_; clear hs115
   refine sq_off hs116 rfl rfl 3 rfl rfl rfl rfl rfl fun _ _ hs117 => ?_; clear hs116
   refine sq_off hs117 rfl rfl 4 rfl rfl rfl rfl rfl fun _ _ hs118 => ?_; clear hs117
   refine sq rfl (st_pick hs118 (Ev.t 5 rfl) rfl rfl (fun h => by cases h) (fun h => (.const _)) fun _ _ hs119 => ?_); clear hs118
   have hs120 := hs119.keep [0, 1, 2, 3, 4, 5, 6, 7, 8, 9, 10, 11, 12, 13, 14, 15, 16, 18, 19] [_, _, _, _, _, _, _, _, _, _, _, _, _, _, _, _, _, _, _] rfl; clear hs119
   refine sq rfl (st_assign hs120 (Ev.t 0 rfl) rfl rfl fun _ _ hs121 => ?_); clear hs120
   refine wpListIn_nil ?_
   have hs122 := hs121.keep [0, 17, 18, 19] [_, _, _, _] rfl; clear hs121
   refine in_norm ?_
   refine th_norm (hK16 _ _ ?_)
   refine cd_region1 ?_
   refine sq rfl (st_move hs122 (Ev.t 1 rfl) rfl rfl fun _ _ hs123 => ?_); clear hs122
   refine sq rfl (st_add (z := 2) hs123 (Ev.t 0 rfl) (.const _) rfl rfl rfl (by omega) fun _ _ hs124 => ?_); clear hs123
   have hs125 := hs124.keep [0, 1, 2, 4, 5] [_, _, _, _, _] rfl; clear hs124
   refine sq rfl (st_assign hs125 (Ev.t 0 rfl) rfl rfl fun _ _ hs126 => ?_); clear hs125
   refine wpListIn_nil ?_
   have hs127 := hs126.keep [0, 3, 4, 5] [_, _, _, _] rfl; clear hs126
   refine th_norm (hK12 _ _ ?_); clear hK12
   refine cd_round fun K17 hK17 => ?_
   refine cd_seq fun K18 hK18 => ?_
   refine cd_region fun K19 hK19 => ?_
   refine sq rfl (st_move hs127 (Ev.t 0 rfl) rfl rfl fun _ _ hs128 => ?_); clear hs127
   refine sq rfl (st_cmp (c := false) hs128 (Ev.t 0 rfl) (.const _) rfl rfl rfl rfl fun _ _ hs129 => ?_); clear hs128
   refine hK19 _ _ ?_; clear hK19
   have hs130 := hs129.keep [0, 2, 3, 4, 5] [_, _, _, _, _] rfl; clear hs129
   have hc20 : false = false := rfl
   refine cd_cond hs130 (Ev.t 0 rfl) (fun h => absurd (hc20.symm.trans h) (by decide)) (fun _ => ?_)
   refine cd_exit ?_
   refine th_exit ?_
   refine th_exit ?_
   refine in_hit ?_
   refine th_norm (hK5 _ _ ?_)
   refine cd_seq fun K21 hK21 => ?_
   refine cd_region fun K22 hK22 => ?_
   refine sq rfl (st_assign hs130 (.const _) rfl rfl fun _ _ hs131 => ?_); clear hs130
   refine hK22 _ _ ?_; clear hK22
   have hs132 := hs131.keep [0, 3, 4, 5] [_, _, _, _] rfl; clear hs131
   refine cd_block ?_
   refine cd_rounds 1 ?_
   refine cd_round fun K23 hK23 => ?_
   refine cd_seq fun K24 hK24 => ?_
   refine cd_region fun K25 hK25 => ?_
   refine sq rfl (st_move hs132 (Ev.t 1 rfl) rfl rfl fun _ _ hs133 => ?_); clear hs132
   refine sq rfl (st_move hs133 (Ev.t 0 rfl) rfl rfl fun _ _ hs134 => ?_); clear hs133
   refine sq_off hs134 rfl rfl 0 rfl rfl rfl rfl rfl fun _ _ hs135 => ?_; clear hs134
   refine sq_off hs135 rfl rfl 1 rfl rfl rfl rfl rfl fun _ _ hs136 => ?_; clear hs135
   refine sq_off hs136 rfl rfl 2 rfl rfl rfl rfl rfl fun _ _ hs137 => ?_; clear hs136
   refine sq_off hs137 rfl rfl 3 rfl rfl rfl rfl rfl fun _ _ hs138 => ?_; clear hs137
   refine sq_off hs138 rfl rfl 4 rfl rfl rfl rfl rfl fun _ _ hs139 => ?_; clear hs138
   refine sq rfl (st_pick hs139 (Ev.t 5 rfl) rfl rfl (fun h => by cases h) (fun h => (.const _)) fun _ _ hs140 => ?_); clear hs139
   refine hK25 _ _ ?_; clear hK25
   have hs141 := hs140.keep [0, 8, 9, 10, 11] [_, _, _, _, _] rfl; clear hs140
   have hc26 : false = false := rfl
   refine cd_cond hs141 (Ev.t 0 rfl) (fun h => absurd (hc26.symm.trans h) (by decide)) (fun _ => ?_)
   refine cd_exit ?_
   refine th_exit ?_
   refine th_exit ?_
   refine in_hit ?_
   refine th_norm (hK21 _ _ ?_)
   refine cd_region fun K27 hK27 => ?_
   refine sq rfl (st_move hs141 (Ev.t 2 rfl) rfl rfl fun _ _ hs142 => ?_); clear hs141
   have hs143 := hs142.keep [0, 1, 2, 3, 5] [_, _, _, _, _] rfl; clear hs142
   refine sq rfl (st_assign hs143 (Ev.t 0 rfl) rfl rfl fun _ _ hs144 => ?_); clear hs143
   refine hK27 _ _ ?_; clear hK27
   have hs145 := hs144.keep [0] [_] rfl; clear hs144
   refine cd_retv (vs := [.bool false]) hs145 hQ0 rfl ⟨.tmp 0 rfl, trivial⟩ ?_
   clear hs145 hQ0 hN0
   simp [pack, hok]
 · skip
   obtain ⟨⟨s1, s2, s3, s4, s5, s6⟩, ⟨s7, s8, s9, s10, s11⟩, s12, s13, s14, s15⟩ := sound_all hok
   have hl2 := hP.len
   rw [← hl2] at s11
   refine cd_region fun K28 hK28 => ?_
   refine sq rfl (st_box hs0 (Ev.t 0 rfl) rfl rfl rfl fun b29 _ _ hs1 => ?_); clear hs0
   refine sq rfl (st_assign hs1 (.const _) rfl rfl fun _ _ hs2 => ?_); clear hs1
   refine hK28 _ _ ?_; clear hK28
   have hs3 := hs2.keep [0, 1] [_, _] rfl; clear hs2
   refine cd_region fun K30 hK30 => ?_
   refine sq rfl (st_loadA (o := 0) (off := 0) (vs := (bookL b A n cp)) hs3 (Ev.t 1 rfl) rfl rfl isAgg27 sizeOf27 (hs3.cells 0 rfl) rfl fun _ _ hs4 => ?_); clear hs3
   refine sq rfl (st_callv (vs := [.agg ⟨(bookL b A n cp)⟩]) hs4 (.func _) ⟨(Ev.t 0 rfl), trivial⟩ rfl rfl call16 rfl (callsV_eq (v' := .int .i64 0) (check_v b A n cp _ (hP.kp hs4.kp) hn) (by simp [hok])) fun _ _ hs5 => ?_); clear hs4
   refine sq rfl (st_cmp (c := true) hs5 (Ev.t 0 rfl) (.const _) rfl rfl rfl rfl fun _ _ hs6 => ?_); clear hs5
   refine sq rfl (st_move hs6 (Ev.t 0 rfl) rfl rfl fun _ _ hs7 => ?_); clear hs6
   refine sq_on hs7 rfl rfl 0 rfl rfl (st_field (o' := 4) hs7 (Ev.t 5 rfl) rfl rfl runUnderlying27 rfl sizeOf3 rfl rfl fun _ _ hs8 => ?_); clear hs7
   refine sq_on hs8 rfl rfl 1 rfl rfl (st_load1 (o := 0) (off := 4) (v := .int .i64 b.bunker) hs8 (Ev.t 0 rfl) rfl rfl isAgg3 (hs8.cells 0 rfl) rfl fun _ _ hs9 => ?_); clear hs8
   refine sq_on hs9 rfl rfl 2 rfl rfl (st_callv (vs := [.int .i64 b.bunker, .int .i64 1, .int .i64 99]) hs9 (.func _) ⟨(Ev.t 0 rfl), (.const _), (.const _), trivial⟩ rfl rfl call37 rfl (amid_t b.bunker 1 99 (by assumption) _) fun _ _ hs10 => ?_); clear hs9
   refine sq rfl (st_pick hs10 (Ev.t 3 rfl) rfl rfl (fun h => (Ev.t 0 rfl)) (fun h => by cases h) fun _ _ hs11 => ?_); clear hs10
   refine sq rfl (st_move hs11 (Ev.t 0 rfl) rfl rfl fun _ _ hs12 => ?_); clear hs11
   refine sq_on hs12 rfl rfl 0 rfl rfl (st_field (o' := 5) hs12 (Ev.t 10 rfl) rfl rfl runUnderlying27 rfl sizeOf3 rfl rfl fun _ _ hs13 => ?_); clear hs12
   refine sq_on hs13 rfl rfl 1 rfl rfl (st_load1 (o := 0) (off := 5) (v := .int .i64 b.tank) hs13 (Ev.t 0 rfl) rfl rfl isAgg3 (hs13.cells 0 rfl) rfl fun _ _ hs14 => ?_); clear hs13
   refine sq_on hs14 rfl rfl 2 rfl rfl (st_callv (vs := [.int .i64 b.tank, .int .i64 1, .int .i64 99]) hs14 (.func _) ⟨(Ev.t 0 rfl), (.const _), (.const _), trivial⟩ rfl rfl call37 rfl (amid_t b.tank 1 99 (by assumption) _) fun _ _ hs15 => ?_); clear hs14
   refine sq rfl (st_pick hs15 (Ev.t 3 rfl) rfl rfl (fun h => (Ev.t 0 rfl)) (fun h => by cases h) fun _ _ hs16 => ?_); clear hs15
   refine sq rfl (st_move hs16 (Ev.t 0 rfl) rfl rfl fun _ _ hs17 => ?_); clear hs16
   refine sq_on hs17 rfl rfl 0 rfl rfl (st_field (o' := 0) hs17 (Ev.t 15 rfl) rfl rfl runUnderlying27 rfl sizeOf23 rfl rfl fun _ _ hs18 => ?_); clear hs17
   refine sq_on hs18 rfl rfl 1 rfl rfl (st_loadA (o := 0) (off := 0) (vs := [.int .i64 b.coal.lo, .int .i64 b.coal.hi]) hs18 (Ev.t 0 rfl) rfl rfl isAgg23 sizeOf23 (hs18.cells 0 rfl) rfl fun _ _ hs19 => ?_); clear hs18
   refine sq_on hs19 rfl rfl 2 rfl rfl (st_field (o' := 4) hs19 (Ev.t 17 rfl) rfl rfl runUnderlying27 rfl sizeOf3 rfl rfl fun _ _ hs20 => ?_); clear hs19
   refine sq_on hs20 rfl rfl 3 rfl rfl (st_load1 (o := 0) (off := 4) (v := .int .i64 b.bunker) hs20 (Ev.t 0 rfl) rfl rfl isAgg3 (hs20.cells 0 rfl) rfl fun _ _ hs21 => ?_); clear hs20
   refine sq_on hs21 rfl rfl 4 rfl rfl (st_callv (vs := [.agg ⟨[.int .i64 b.coal.lo, .int .i64 b.coal.hi]⟩, .int .i64 0, .int .i64 b.bunker]) hs21 (.func _) ⟨(Ev.t 2 rfl), (.const _), (Ev.t 0 rfl), trivial⟩ rfl rfl call51 rfl (legal_t b.coal.lo b.coal.hi 0 b.bunker (by assumption) _) fun _ _ hs22 => ?_); clear hs21
   refine sq rfl (st_pick hs22 (Ev.t 5 rfl) rfl rfl (fun h => (Ev.t 0 rfl)) (fun h => by cases h) fun _ _ hs23 => ?_); clear hs22
   refine sq rfl (st_move hs23 (Ev.t 0 rfl) rfl rfl fun _ _ hs24 => ?_); clear hs23
   refine sq_on hs24 rfl rfl 0 rfl rfl (st_field (o' := 2) hs24 (Ev.t 22 rfl) rfl rfl runUnderlying27 rfl sizeOf23 rfl rfl fun _ _ hs25 => ?_); clear hs24
   refine sq_on hs25 rfl rfl 1 rfl rfl (st_loadA (o := 0) (off := 2) (vs := [.int .i64 b.water.lo, .int .i64 b.water.hi]) hs25 (Ev.t 0 rfl) rfl rfl isAgg23 sizeOf23 (hs25.cells 0 rfl) rfl fun _ _ hs26 => ?_); clear hs25
   refine sq_on hs26 rfl rfl 2 rfl rfl (st_field (o' := 5) hs26 (Ev.t 24 rfl) rfl rfl runUnderlying27 rfl sizeOf3 rfl rfl fun _ _ hs27 => ?_); clear hs26
   refine sq_on hs27 rfl rfl 3 rfl rfl (st_load1 (o := 0) (off := 5) (v := .int .i64 b.tank) hs27 (Ev.t 0 rfl) rfl rfl isAgg3 (hs27.cells 0 rfl) rfl fun _ _ hs28 => ?_); clear hs27
   refine sq_on hs28 rfl rfl 4 rfl rfl (st_callv (vs := [.agg ⟨[.int .i64 b.water.lo, .int .i64 b.water.hi]⟩, .int .i64 0, .int .i64 b.tank]) hs28 (.func _) ⟨(Ev.t 2 rfl), (.const _), (Ev.t 0 rfl), trivial⟩ rfl rfl call51 rfl (legal_t b.water.lo b.water.hi 0 b.tank (by assumption) _) fun _ _ hs29 => ?_); clear hs28
   refine sq rfl (st_pick hs29 (Ev.t 5 rfl) rfl rfl (fun h => (Ev.t 0 rfl)) (fun h => by cases h) fun _ _ hs30 => ?_); clear hs29
   refine sq rfl (st_move hs30 (Ev.t 0 rfl) rfl rfl fun _ _ hs31 => ?_); clear hs30
   refine sq_on hs31 rfl rfl 0 rfl rfl (st_field (o' := 6) hs31 (Ev.t 29 rfl) rfl rfl runUnderlying27 rfl sizeOf3 rfl rfl fun _ _ hs32 => ?_); clear hs31
   refine sq_on hs32 rfl rfl 1 rfl rfl (st_load1 (o := 0) (off := 6) (v := .int .i64 b.scoop) hs32 (Ev.t 0 rfl) rfl rfl isAgg3 (hs32.cells 0 rfl) rfl fun _ _ hs33 => ?_); clear hs32
   refine sq_on hs33 rfl rfl 2 rfl rfl (st_callv (vs := [.int .i64 b.scoop, .int .i64 1, .int .i64 20]) hs33 (.func _) ⟨(Ev.t 0 rfl), (.const _), (.const _), trivial⟩ rfl rfl call37 rfl (amid_t b.scoop 1 20 (by assumption) _) fun _ _ hs34 => ?_); clear hs33
   refine sq rfl (st_pick hs34 (Ev.t 3 rfl) rfl rfl (fun h => (Ev.t 0 rfl)) (fun h => by cases h) fun _ _ hs35 => ?_); clear hs34
   refine sq rfl (st_move hs35 (Ev.t 0 rfl) rfl rfl fun _ _ hs36 => ?_); clear hs35
   refine sq_on hs36 rfl rfl 0 rfl rfl (st_field (o' := 7) hs36 (Ev.t 34 rfl) rfl rfl runUnderlying27 rfl sizeOf3 rfl rfl fun _ _ hs37 => ?_); clear hs36
   refine sq_on hs37 rfl rfl 1 rfl rfl (st_load1 (o := 0) (off := 7) (v := .int .i64 b.pail) hs37 (Ev.t 0 rfl) rfl rfl isAgg3 (hs37.cells 0 rfl) rfl fun _ _ hs38 => ?_); clear hs37
   refine sq_on hs38 rfl rfl 2 rfl rfl (st_callv (vs := [.int .i64 b.pail, .int .i64 1, .int .i64 20]) hs38 (.func _) ⟨(Ev.t 0 rfl), (.const _), (.const _), trivial⟩ rfl rfl call37 rfl (amid_t b.pail 1 20 (by assumption) _) fun _ _ hs39 => ?_); clear hs38
   refine sq rfl (st_pick hs39 (Ev.t 3 rfl) rfl rfl (fun h => (Ev.t 0 rfl)) (fun h => by cases h) fun _ _ hs40 => ?_); clear hs39
   refine sq rfl (st_assign hs40 (Ev.t 0 rfl) rfl rfl fun _ _ hs41 => ?_); clear hs40
   refine hK30 _ _ ?_; clear hK30
   have hs42 := hs41.keep [0, 38, 39] [_, _, _] rfl; clear hs41
   refine cd_region fun K31 hK31 => ?_
   refine sq rfl (st_move hs42 (Ev.t 0 rfl) rfl rfl fun _ _ hs43 => ?_); clear hs42
   refine sq rfl (st_move hs43 (Ev.t 0 rfl) rfl rfl fun _ _ hs44 => ?_); clear hs43
   refine sq_on hs44 rfl rfl 0 rfl rfl (st_field (o' := 16) hs44 (Ev.t 4 rfl) rfl rfl runUnderlying27 rfl sizeOf23 rfl rfl fun _ _ hs45 => ?_); clear hs44
   refine sq_on hs45 rfl rfl 1 rfl rfl (st_loadA (o := 0) (off := 16) (vs := [.int .i64 b.full.lo, .int .i64 b.full.hi]) hs45 (Ev.t 0 rfl) rfl rfl isAgg23 sizeOf23 (hs45.cells 0 rfl) rfl fun _ _ hs46 => ?_); clear hs45
   refine sq_on hs46 rfl rfl 2 rfl rfl (st_callv (vs := [.agg ⟨[.int .i64 b.full.lo, .int .i64 b.full.hi]⟩, .int .i64 0, .int .i64 60]) hs46 (.func _) ⟨(Ev.t 0 rfl), (.const _), (.const _), trivial⟩ rfl rfl call51 rfl (legal_t b.full.lo b.full.hi 0 60 (by assumption) _) fun _ _ hs47 => ?_); clear hs46
   refine sq rfl (st_pick hs47 (Ev.t 3 rfl) rfl rfl (fun h => (Ev.t 0 rfl)) (fun h => by cases h) fun _ _ hs48 => ?_); clear hs47
   refine sq rfl (st_move hs48 (Ev.t 0 rfl) rfl rfl fun _ _ hs49 => ?_); clear hs48
   refine sq_on hs49 rfl rfl 0 rfl rfl (st_field (o' := 18) hs49 (Ev.t 9 rfl) rfl rfl runUnderlying27 rfl sizeOf23 rfl rfl fun _ _ hs50 => ?_); clear hs49
   refine sq_on hs50 rfl rfl 1 rfl rfl (st_loadA (o := 0) (off := 18) (vs := [.int .i64 b.weak.lo, .int .i64 b.weak.hi]) hs50 (Ev.t 0 rfl) rfl rfl isAgg23 sizeOf23 (hs50.cells 0 rfl) rfl fun _ _ hs51 => ?_); clear hs50
   refine sq_on hs51 rfl rfl 2 rfl rfl (st_callv (vs := [.agg ⟨[.int .i64 b.weak.lo, .int .i64 b.weak.hi]⟩, .int .i64 0, .int .i64 60]) hs51 (.func _) ⟨(Ev.t 0 rfl), (.const _), (.const _), trivial⟩ rfl rfl call51 rfl (legal_t b.weak.lo b.weak.hi 0 60 (by assumption) _) fun _ _ hs52 => ?_); clear hs51
   refine sq rfl (st_pick hs52 (Ev.t 3 rfl) rfl rfl (fun h => (Ev.t 0 rfl)) (fun h => by cases h) fun _ _ hs53 => ?_); clear hs52
   refine sq rfl (st_move hs53 (Ev.t 0 rfl) rfl rfl fun _ _ hs54 => ?_); clear hs53
   refine sq_on hs54 rfl rfl 0 rfl rfl (st_field (o' := 20) hs54 (Ev.t 14 rfl) rfl rfl runUnderlying27 rfl sizeOf3 rfl rfl fun _ _ hs55 => ?_); clear hs54
   refine sq_on hs55 rfl rfl 1 rfl rfl (st_load1 (o := 0) (off := 20) (v := .int .i64 b.mark) hs55 (Ev.t 0 rfl) rfl rfl isAgg3 (hs55.cells 0 rfl) rfl fun _ _ hs56 => ?_); clear hs55
   refine sq_on hs56 rfl rfl 2 rfl rfl (st_field (o' := 5) hs56 (Ev.t 16 rfl) rfl rfl runUnderlying27 rfl sizeOf3 rfl rfl fun _ _ hs57 => ?_); clear hs56
   refine sq_on hs57 rfl rfl 3 rfl rfl (st_load1 (o := 0) (off := 5) (v := .int .i64 b.tank) hs57 (Ev.t 0 rfl) rfl rfl isAgg3 (hs57.cells 0 rfl) rfl fun _ _ hs58 => ?_); clear hs57
   refine sq_on hs58 rfl rfl 4 rfl rfl (st_callv (vs := [.int .i64 b.mark, .int .i64 0, .int .i64 b.tank]) hs58 (.func _) ⟨(Ev.t 2 rfl), (.const _), (Ev.t 0 rfl), trivial⟩ rfl rfl call37 rfl (amid_t b.mark 0 b.tank (by assumption) _) fun _ _ hs59 => ?_); clear hs58
   refine sq rfl (st_pick hs59 (Ev.t 5 rfl) rfl rfl (fun h => (Ev.t 0 rfl)) (fun h => by cases h) fun _ _ hs60 => ?_); clear hs59
   refine sq rfl (st_move hs60 (Ev.t 0 rfl) rfl rfl fun _ _ hs61 => ?_); clear hs60
   refine sq_on hs61 rfl rfl 0 rfl rfl (st_field (o' := 21) hs61 (Ev.t 21 rfl) rfl rfl runUnderlying27 rfl sizeOf3 rfl rfl fun _ _ hs62 => ?_); clear hs61
   refine sq_on hs62 rfl rfl 1 rfl rfl (st_load1 (o := 0) (off := 21) (v := .int .i64 b.lamp) hs62 (Ev.t 0 rfl) rfl rfl isAgg3 (hs62.cells 0 rfl) rfl fun _ _ hs63 => ?_); clear hs62
   refine sq_on hs63 rfl rfl 2 rfl rfl (st_callv (vs := [.int .i64 b.lamp, .int .i64 0, .int .i64 60]) hs63 (.func _) ⟨(Ev.t 0 rfl), (.const _), (.const _), trivial⟩ rfl rfl call37 rfl (amid_t b.lamp 0 60 (by assumption) _) fun _ _ hs64 => ?_); clear hs63
   refine sq rfl (st_pick hs64 (Ev.t 3 rfl) rfl rfl (fun h => (Ev.t 0 rfl)) (fun h => by cases h) fun _ _ hs65 => ?_); clear hs64
   refine sq rfl (st_move hs65 (Ev.t 0 rfl) rfl rfl fun _ _ hs66 => ?_); clear hs65
   refine sq_on hs66 rfl rfl 0 rfl rfl (st_field (o' := 22) hs66 (Ev.t 26 rfl) rfl rfl runUnderlying27 rfl sizeOf25 rfl rfl fun _ _ hs67 => ?_); clear hs66
   refine sq_on hs67 rfl rfl 1 rfl rfl (st_load1 (o := 0) (off := 22) (v := .slice A n cp) hs67 (Ev.t 0 rfl) rfl rfl isAgg25 (hs67.cells 0 rfl) rfl fun _ _ hs68 => ?_); clear hs67
   refine sq_on hs68 rfl rfl 2 rfl rfl (st_len hs68 (Ev.t 0 rfl) rfl rfl runUnderlying25 fun _ _ hs69 => ?_); clear hs68
   refine sq_on hs69 rfl rfl 3 rfl rfl (st_callv (vs := [.int .i64 (n : Int), .int .i64 1, .int .i64 5]) hs69 (.func _) ⟨(Ev.t 0 rfl), (.const _), (.const _), trivial⟩ rfl rfl call37 rfl (amid_t (n : Int) 1 5 (by assumption) _) fun _ _ hs70 => ?_); clear hs69
   refine sq rfl (st_pick hs70 (Ev.t 4 rfl) rfl rfl (fun h => (Ev.t 0 rfl)) (fun h => by cases h) fun _ _ hs71 => ?_); clear hs70
   have hs72 := hs71.keep [0, 1, 2, 3, 4, 5, 6, 7, 8, 9, 10, 11, 12, 13, 14, 15, 16, 17, 18, 19, 20, 21, 22, 23, 24, 25, 26, 27, 28, 30, 31] [_, _, _, _, _, _, _, _, _, _, _, _, _, _, _, _, _, _, _, _, _, _, _, _, _, _, _, _, _, _, _] rfl; clear hs71
   refine sq rfl (st_assign hs72 (Ev.t 0 rfl) rfl rfl fun _ _ hs73 => ?_); clear hs72
   refine hK31 _ _ ?_; clear hK31
   have hs74 := hs73.keep [0, 30, 31] [_, _, _] rfl; clear hs73
   refine cd_seq fun K32 hK32 => ?_
   refine cd_region fun K33 hK33 => ?_
   refine sq rfl (st_assign hs74 (.const _) rfl rfl fun _ _ hs75 => ?_); clear hs74
   refine hK33 _ _ ?_; clear hK33
   refine cd_block ?_
   refine cd_rounds 3 ?_
   refine cd_round fun K34 hK34 => ?_
   refine cd_seq fun K35 hK35 => ?_
   refine cd_region fun K36 hK36 => ?_
   refine sq rfl (st_move hs75 (Ev.t 0 rfl) rfl rfl fun _ _ hs76 => ?_); clear hs75
   refine sq rfl (st_cmp (c := true) hs76 (Ev.t 0 rfl) (.const _) rfl rfl rfl rfl fun _ _ hs77 => ?_); clear hs76
   refine hK36 _ _ ?_; clear hK36
   have hs78 := hs77.keep [0, 2, 3, 4, 5] [_, _, _, _, _] rfl; clear hs77
   have hc37 : true = true := rfl
   refine cd_cond hs78 (Ev.t 0 rfl) (fun _ => ?_) (fun h => absurd (hc37.symm.trans h) (by decide))
   refine cd_skip ?_
   refine th_norm (hK35 _ _ ?_)
   refine cd_seq fun K38 hK38 => ?_
   refine cd_block ?_
   refine cd_region1 ?_
   refine sq rfl (st_move hs78 (Ev.t 2 rfl) rfl rfl fun _ _ hs79 => ?_); clear hs78
   refine sq rfl (st_move hs79 (Ev.t 0 rfl) rfl rfl fun _ _ hs80 => ?_); clear hs79
   refine sq_on hs80 rfl rfl 0 rfl rfl (st_move hs80 (Ev.t 3 rfl) rfl rfl fun _ _ hs81 => ?_); clear hs80
   refine sq_on hs81 rfl rfl 1 rfl rfl (st_field (o' := 8) hs81 (Ev.t 7 rfl) rfl rfl runUnderlying27 rfl sizeOf24 rfl rfl fun _ _ hs82 => ?_); clear hs81
   refine sq_on hs82 rfl rfl 2 rfl rfl (st_indexArr (o' := 8) hs82 (Ev.t 0 rfl) (Ev.t 1 rfl) rfl rfl runUnderlying24 sizeOf23 (by decide) rfl fun _ _ hs83 => ?_); clear hs82
   refine sq_on hs83 rfl rfl 3 rfl rfl (st_loadA (o := 0) (off := 8) (vs := [.int .i64 b.burn0.lo, .int .i64 b.burn0.hi]) hs83 (Ev.t 0 rfl) rfl rfl isAgg23 sizeOf23 (hs83.cells 0 rfl) rfl fun _ _ hs84 => ?_); clear hs83
   refine sq_on hs84 rfl rfl 4 rfl rfl (st_callv (vs := [.agg ⟨[.int .i64 b.burn0.lo, .int .i64 b.burn0.hi]⟩, .int .i64 0, .int .i64 3]) hs84 (.func _) ⟨(Ev.t 0 rfl), (.const _), (.const _), trivial⟩ rfl rfl call51 rfl (legal_t b.burn0.lo b.burn0.hi 0 3 (by assumption) _) fun _ _ hs85 => ?_); clear hs84
   refine sq rfl (st_pick hs85 (Ev.t 5 rfl) rfl rfl (fun h => (Ev.t 0 rfl)) (fun h => by cases h) fun _ _ hs86 => ?_); clear hs85
   refine sq rfl (st_move hs86 (Ev.t 0 rfl) rfl rfl fun _ _ hs87 => ?_); clear hs86
   refine sq_on hs87 rfl rfl 0 rfl rfl (st_move hs87 (Ev.t 10 rfl) rfl rfl fun _ _ hs88 => ?_); clear hs87
   refine sq_on hs88 rfl rfl 1 rfl rfl (st_field (o' := 12) hs88 (Ev.t 14 rfl) rfl rfl runUnderlying27 rfl sizeOf24 rfl rfl fun _ _ hs89 => ?_); clear hs88
   refine sq_on hs89 rfl rfl 2 rfl rfl (st_indexArr (o' := 12) hs89 (Ev.t 0 rfl) (Ev.t 1 rfl) rfl rfl runUnderlying24 sizeOf23 (by decide) rfl fun _ _ hs90 => ?_); clear hs89
   refine sq_on hs90 rfl rfl 3 rfl rfl (st_loadA (o := 0) (off := 12) (vs := [.int .i64 b.drink0.lo, .int .i64 b.drink0.hi]) hs90 (Ev.t 0 rfl) rfl rfl isAgg23 sizeOf23 (hs90.cells 0 rfl) rfl fun _ _ hs91 => ?_); clear hs90
   refine sq_on hs91 rfl rfl 4 rfl rfl (st_callv (vs := [.agg ⟨[.int .i64 b.drink0.lo, .int .i64 b.drink0.hi]⟩, .int .i64 0, .int .i64 3]) hs91 (.func _) ⟨(Ev.t 0 rfl), (.const _), (.const _), trivial⟩ rfl rfl call51 rfl (legal_t b.drink0.lo b.drink0.hi 0 3 (by assumption) _) fun _ _ hs92 => ?_); clear hs91
   refine sq rfl (st_pick hs92 (Ev.t 5 rfl) rfl rfl (fun h => (Ev.t 0 rfl)) (fun h => by cases h) fun _ _ hs93 => ?_); clear hs92
   have hs94 := hs93.keep [0, 1, 2, 3, 4, 5, 6, 7, 8, 9, 10, 11, 12, 13, 14, 15, 16, 18, 19] [_, _, _, _, _, _, _, _, _, _, _, _, _, _, _, _, _, _, _] rfl; clear hs93
   refine sq rfl (st_assign hs94 (Ev.t 0 rfl) rfl rfl fun _ _ hs95 => ?_); clear hs94
   refine wpListIn_nil ?_
   have hs96 := hs95.keep [0, 17, 18, 19] [_, _, _, _] rfl; clear hs95
   refine in_norm ?_
   refine th_norm (hK38 _ _ ?_)
   refine cd_region1 ?_
   refine sq rfl (st_move hs96 (Ev.t 1 rfl) rfl rfl fun _ _ hs97 => ?_); clear hs96
   refine sq rfl (st_add (z := 1) hs97 (Ev.t 0 rfl) (.const _) rfl rfl rfl (by omega) fun _ _ hs98 => ?_); clear hs97
   have hs99 := hs98.keep [0, 1, 2, 4, 5] [_, _, _, _, _] rfl; clear hs98
   refine sq rfl (st_assign hs99 (Ev.t 0 rfl) rfl rfl fun _ _ hs100 => ?_); clear hs99
   refine wpListIn_nil ?_
   have hs101 := hs100.keep [0, 3, 4, 5] [_, _, _, _] rfl; clear hs100
   refine th_norm (hK34 _ _ ?_); clear hK34
   refine cd_round fun K39 hK39 => ?_
   refine cd_seq fun K40 hK40 => ?_
   refine cd_region fun K41 hK41 => ?_
   refine sq rfl (st_move hs101 (Ev.t 0 rfl) rfl rfl fun _ _ hs102 => ?_); clear hs101
   refine sq rfl (st_cmp (c := true) hs102 (Ev.t 0 rfl) (.const _) rfl rfl rfl rfl fun _ _ hs103 => ?_); clear hs102
   refine hK41 _ _ ?_; clear hK41
   have hs104 := hs103.keep [0, 2, 3, 4, 5] [_, _, _, _, _] rfl; clear hs103
   have hc42 : true = true := rfl
   refine cd_cond hs104 (Ev.t 0 rfl) (fun _ => ?_) (fun h => absurd (hc42.symm.trans h) (by decide))
   refine cd_skip ?_
   refine th_norm (hK40 _ _ ?_)
   refine cd_seq fun K43 hK43 => ?_
   refine cd_block ?_
   refine cd_region1 ?_
   refine sq rfl (st_move hs104 (Ev.t 2 rfl) rfl rfl fun _ _ hs105 => ?_); clear hs104
   refine sq rfl (st_move hs105 (Ev.t 0 rfl) rfl rfl fun _ _ hs106 => ?_); clear hs105
   refine sq_on hs106 rfl rfl 0 rfl rfl (st_move hs106 (Ev.t 3 rfl) rfl rfl fun _ _ hs107 => ?_); clear hs106
   refine sq_on hs107 rfl rfl 1 rfl rfl (st_field (o' := 8) hs107 (Ev.t 7 rfl) rfl rfl runUnderlying27 rfl sizeOf24 rfl rfl fun _ _ hs108 => ?_); clear hs107
   refine sq_on hs108 rfl rfl 2 rfl rfl (st_indexArr (o' := 10) hs108 (Ev.t 0 rfl) (Ev.t 1 rfl) rfl rfl runUnderlying24 sizeOf23 (by decide) rfl fun _ _ hs109 => ?_); clear hs108
   refine sq_on hs109 rfl rfl 3 rfl rfl (st_loadA (o := 0) (off := 10) (vs := [.int .i64 b.burn1.lo, .int .i64 b.burn1.hi]) hs109 (Ev.t 0 rfl) rfl rfl isAgg23 sizeOf23 (hs109.cells 0 rfl) rfl fun _ _ hs110 => ?_); clear hs109
   refine sq_on hs110 rfl rfl 4 rfl rfl (st_callv (vs := [.agg ⟨[.int .i64 b.burn1.lo, .int .i64 b.burn1.hi]⟩, .int .i64 0, .int .i64 3]) hs110 (.func _) ⟨(Ev.t 0 rfl), (.const _), (.const _), trivial⟩ rfl rfl call51 rfl (legal_t b.burn1.lo b.burn1.hi 0 3 (by assumption) _) fun _ _ hs111 => ?_); clear hs110
   refine sq rfl (st_pick hs111 (Ev.t 5 rfl) rfl rfl (fun h => (Ev.t 0 rfl)) (fun h => by cases h) fun _ _ hs112 => ?_); clear hs111
   refine sq rfl (st_move hs112 (Ev.t 0 rfl) rfl rfl fun _ _ hs113 => ?_); clear hs112
   refine sq_on hs113 rfl rfl 0 rfl rfl (st_move hs113 (Ev.t 10 rfl) rfl rfl fun _ _ hs114 => ?_); clear hs113
   refine sq_on hs114 rfl rfl 1 rfl rfl (st_field (o' := 12) hs114 (Ev.t 14 rfl) rfl rfl runUnderlying27 rfl sizeOf24 rfl rfl fun _ _ hs115 => ?_); clear hs114
   refine sq_on hs115 rfl rfl 2 rfl rfl (st_indexArr (o' := 14) hs115 (Ev.t 0 rfl) (Ev.t 1 rfl) rfl rfl runUnderlying24 sizeOf23 (by decide) rfl fun _ _ hs116 => ?_); clear hs115
   refine sq_on hs116 rfl rfl 3 rfl rfl (st_loadA (o := 0) (off := 14) (vs := [.int .i64 b.drink1.lo, .int .i64 b.drink1.hi]) hs116 (Ev.t 0 rfl) rfl rfl isAgg23 sizeOf23 (hs116.cells 0 rfl) rfl fun _ _ hs117 => ?_); clear hs116
   refine sq_on hs117 rfl rfl 4 rfl rfl (st_callv (vs := [.agg ⟨[.int .i64 b.drink1.lo, .int .i64 b.drink1.hi]⟩, .int .i64 0, .int .i64 3]) hs117 (.func _) ⟨(Ev.t 0 rfl), (.const _), (.const _), trivial⟩ rfl rfl call51 rfl (legal_t b.drink1.lo b.drink1.hi 0 3 (by assumption) _) fun _ _ hs118 => ?_); clear hs117
   refine sq rfl (st_pick hs118 (Ev.t 5 rfl) rfl rfl (fun h => (Ev.t 0 rfl)) (fun h => by cases h) fun _ _ hs119 => ?_); clear hs118
   have hs120 := hs119.keep [0, 1, 2, 3, 4, 5, 6, 7, 8, 9, 10, 11, 12, 13, 14, 15, 16, 18, 19] [_, _, _, _, _, _, _, _, _, _, _, _, _, _, _, _, _, _, _] rfl; clear hs119
   refine sq rfl (st_assign hs120 (Ev.t 0 rfl) rfl rfl fun _ _ hs121 => ?_); clear hs120
   refine wpListIn_nil ?_
   have hs122 := hs121.keep [0, 17, 18, 19] [_, _, _, _] rfl; clear hs121
   refine in_norm ?_
   refine th_norm (hK43 _ _ ?_)
   refine cd_region1 ?_
   refine sq rfl (st_move hs122 (Ev.t 1 rfl) rfl rfl fun _ _ hs123 => ?_); clear hs122
   refine sq rfl (st_add (z := 2) hs123 (Ev.t 0 rfl) (.const _) rfl rfl rfl (by omega) fun _ _ hs124 => ?_); clear hs123
   have hs125 := hs124.keep [0, 1, 2, 4, 5] [_, _, _, _, _] rfl; clear hs124
   refine sq rfl (st_assign hs125 (Ev.t 0 rfl) rfl rfl fun _ _ hs126 => ?_); clear hs125
   refine wpListIn_nil ?_
   have hs127 := hs126.keep [0, 3, 4, 5] [_, _, _, _] rfl; clear hs126
   refine th_norm (hK39 _ _ ?_); clear hK39
   refine cd_round fun K44 hK44 => ?_
   refine cd_seq fun K45 hK45 => ?_
   refine cd_region fun K46 hK46 => ?_
   refine sq rfl (st_move hs127 (Ev.t 0 rfl) rfl rfl fun _ _ hs128 => ?_); clear hs127
   refine sq rfl (st_cmp (c := false) hs128 (Ev.t 0 rfl) (.const _) rfl rfl rfl rfl fun _ _ hs129 => ?_); clear hs128
   refine hK46 _ _ ?_; clear hK46
   have hs130 := hs129.keep [0, 2, 3, 4, 5] [_, _, _, _, _] rfl; clear hs129
   have hc47 : false = false := rfl
   refine cd_cond hs130 (Ev.t 0 rfl) (fun h => absurd (hc47.symm.trans h) (by decide)) (fun _ => ?_)
   refine cd_exit ?_
   refine th_exit ?_
   refine th_exit ?_
   refine in_hit ?_
   refine th_norm (hK32 _ _ ?_)
   refine cd_seq fun K48 hK48 => ?_
   refine cd_region fun K49 hK49 => ?_
   refine sq rfl (st_assign hs130 (.const _) rfl rfl fun _ _ hs131 => ?_); clear hs130
   refine hK49 _ _ ?_; clear hK49
   have hs132 := hs131.keep [0, 3, 4, 5] [_, _, _, _] rfl; clear hs131
   refine cd_block ?_
   have hs133 : Sx 118 [] [(5, .int .i64 (0 : Int)), (3, .bool true), (2, .bool false), (1, .pointer (some ⟨b29, 0, none⟩))] [(b29, some (.cells ⟨(bookL b A n cp)⟩ 27 (0, 0)))] [] w _ _ := Sx.keepE [0, 1, 2, 3] _ ⟨⟨_, rfl, rfl⟩, ⟨_, rfl, rfl⟩, ⟨_, rfl, rfl⟩, ⟨_, rfl, rfl⟩, trivial⟩ hs132; clear hs132
   refine cd_loop (X := Nat) (fun i a_ w_ => (i ≤ n) ∧ Sx 118 [] [(5, .int .i64 (i : Int)), (3, .bool true), (2, .bool false), (1, .pointer (some ⟨b29, 0, none⟩))] [(b29, some (.cells ⟨(bookL b A n cp)⟩ 27 (0, 0)))] [] w a_ w_) (fun i => n - i) (0) ⟨?_, hs133⟩ ?_
   · first | omega | simp
   intro i a_134 w_134 ⟨hi, hs134⟩; clear hs133
   refine cd_seq fun K50 hK50 => ?_
   refine cd_region fun K51 hK51 => ?_
   refine sq rfl (st_move hs134 (Ev.t 1 rfl) rfl rfl fun _ _ hs135 => ?_); clear hs134
   refine sq rfl (st_move hs135 (Ev.t 0 rfl) rfl rfl fun _ _ hs136 => ?_); clear hs135
   refine sq_on hs136 rfl rfl 0 rfl rfl (st_move hs136 (Ev.t 2 rfl) rfl rfl fun _ _ hs137 => ?_); clear hs136
   refine sq_on hs137 rfl rfl 1 rfl rfl (st_field (o' := 22) hs137 (Ev.t 6 rfl) rfl rfl runUnderlying27 rfl sizeOf25 rfl rfl fun _ _ hs138 => ?_); clear hs137
   refine sq_on hs138 rfl rfl 2 rfl rfl (st_load1 (o := 0) (off := 22) (v := .slice A n cp) hs138 (Ev.t 0 rfl) rfl rfl isAgg25 (hs138.cells 0 rfl) rfl fun _ _ hs139 => ?_); clear hs138
   refine sq_on hs139 rfl rfl 3 rfl rfl (st_len hs139 (Ev.t 0 rfl) rfl rfl runUnderlying25 fun _ _ hs140 => ?_); clear hs139
   refine sq_on hs140 rfl rfl 4 rfl rfl (st_cmp (c := decide (((i : Int) : Int) < (n : Int))) hs140 (Ev.t 3 rfl) (Ev.t 0 rfl) rfl rfl rfl rfl fun _ _ hs141 => ?_); clear hs140
   refine sq rfl (st_pick hs141 (Ev.t 5 rfl) rfl rfl (fun h => (Ev.t 0 rfl)) (fun h => by cases h) fun _ _ hs142 => ?_); clear hs141
   refine hK51 _ _ ?_; clear hK51
   have hs143 := hs142.keep [0, 8, 9, 10, 11] [_, _, _, _, _] rfl; clear hs142
   refine cd_cond hs143 (Ev.t 0 rfl) (fun hc52 => ?_) (fun hc52 => ?_)
   · simp only [decide_eq_true_eq] at hc52
     have hil : i < b.parts.length := by omega
     obtain ⟨x53, hx53⟩ : ∃ x, b.parts[i]? = some x := ⟨_, List.getElem?_eq_getElem (by have := hP.len; omega)⟩
     obtain ⟨b54, o54, hA54, -, hc54⟩ := hP.el i x53 hx53
     obtain ⟨q1, q2⟩ := ok_part hok hx53
     refine cd_skip ?_
     refine th_norm (hK50 _ _ ?_)
     refine cd_seq fun K55 hK55 => ?_
     refine cd_block ?_
     refine cd_region1 ?_
     refine sq rfl (st_field (o' := 22) hs143 (Ev.t 4 rfl) rfl rfl runUnderlying27 rfl sizeOf25 rfl rfl fun _ _ hs144 => ?_); clear hs143
     refine sq rfl (st_load1 (o := 0) (off := 22) (v := .slice A n cp) hs144 (Ev.t 0 rfl) rfl rfl isAgg25 (hs144.cells 0 rfl) rfl fun _ _ hs145 => ?_); clear hs144
     refine sq rfl (st_move hs145 (Ev.t 3 rfl) rfl rfl fun _ _ hs146 => ?_); clear hs145
     refine sq rfl (st_indexM (o' := o54 + i * 4) hs146 (Ev.t 1 rfl) (Ev.t 0 rfl) rfl rfl hA54 runUnderlying25 sizeOf66 ⟨by omega, by have := hP.len; have := (List.getElem?_eq_some_iff.1 hx53).1; omega⟩ rfl fun _ _ hs147 => ?_); clear hs146
     refine sq rfl (st_field (o' := o54 + i * 4) hs147 (Ev.t 0 rfl) rfl rfl runUnderlying66 rfl sizeOf23 rfl rfl fun _ _ hs148 => ?_); clear hs147
     refine sq rfl (st_loadA (o := o54 + i * 4) (off := 0) (vs := [.int .i64 x53.mi.lo, .int .i64 x53.mi.hi]) hs148 (Ev.t 0 rfl) rfl rfl isAgg23 sizeOf23 (hs148.old hc54 (by simp)) rfl fun _ _ hs149 => ?_); clear hs148
     refine sq rfl (st_callv (vs := [.agg ⟨[.int .i64 x53.mi.lo, .int .i64 x53.mi.hi]⟩, .int .i64 1, .int .i64 60]) hs149 (.func _) ⟨(Ev.t 0 rfl), (.const _), (.const _), trivial⟩ rfl rfl call51 rfl (legal_t x53.mi.lo x53.mi.hi 1 60 (by assumption) _) fun _ _ hs150 => ?_); clear hs149
     refine sq rfl (st_move hs150 (Ev.t 0 rfl) rfl rfl fun _ _ hs151 => ?_); clear hs150
     refine sq_on hs151 rfl rfl 0 rfl rfl (st_field (o' := 22) hs151 (Ev.t 12 rfl) rfl rfl runUnderlying27 rfl sizeOf25 rfl rfl fun _ _ hs152 => ?_); clear hs151
     refine sq_on hs152 rfl rfl 1 rfl rfl (st_load1 (o := 0) (off := 22) (v := .slice A n cp) hs152 (Ev.t 0 rfl) rfl rfl isAgg25 (hs152.cells 0 rfl) rfl fun _ _ hs153 => ?_); clear hs152
     refine sq_on hs153 rfl rfl 2 rfl rfl (st_move hs153 (Ev.t 11 rfl) rfl rfl fun _ _ hs154 => ?_); clear hs153
     refine sq_on hs154 rfl rfl 3 rfl rfl (st_indexM (o' := o54 + i * 4) hs154 (Ev.t 1 rfl) (Ev.t 0 rfl) rfl rfl hA54 runUnderlying25 sizeOf66 ⟨by omega, by have := hP.len; have := (List.getElem?_eq_some_iff.1 hx53).1; omega⟩ rfl fun _ _ hs155 => ?_); clear hs154
     refine sq_on hs155 rfl rfl 4 rfl rfl (st_field (o' := o54 + i * 4 + 3) hs155 (Ev.t 0 rfl) rfl rfl runUnderlying66 rfl sizeOf3 rfl rfl fun _ _ hs156 => ?_); clear hs155
     refine sq_on hs156 rfl rfl 5 rfl rfl (st_load1 (o := o54 + i * 4) (off := 3) (v := .int .i64 x53.walks) hs156 (Ev.t 0 rfl) rfl rfl isAgg3 (hs156.old hc54 (by simp)) rfl fun _ _ hs157 => ?_); clear hs156
     refine sq_on hs157 rfl rfl 6 rfl rfl (st_callv (vs := [.int .i64 x53.walks, .int .i64 0, .int .i64 5]) hs157 (.func _) ⟨(Ev.t 0 rfl), (.const _), (.const _), trivial⟩ rfl rfl call37 rfl (amid_t x53.walks 0 5 (by assumption) _) fun _ _ hs158 => ?_); clear hs157
     refine sq rfl (st_pick hs158 (Ev.t 7 rfl) rfl rfl (fun h => (Ev.t 0 rfl)) (fun h => by cases h) fun _ _ hs159 => ?_); clear hs158
     have hs160 := hs159.keep [0, 1, 2, 3, 4, 5, 6, 7, 8, 9, 10, 11, 12, 13, 14, 15, 16, 17, 19, 20] [_, _, _, _, _, _, _, _, _, _, _, _, _, _, _, _, _, _, _, _] rfl; clear hs159
     refine sq rfl (st_assign hs160 (Ev.t 0 rfl) rfl rfl fun _ _ hs161 => ?_); clear hs160
     refine wpListIn_nil ?_
     have hs162 := hs161.keep [0, 18, 19, 20] [_, _, _, _] rfl; clear hs161
     refine in_norm ?_
     refine th_norm (hK55 _ _ ?_)
     refine cd_region1 ?_
     refine sq rfl (st_move hs162 (Ev.t 1 rfl) rfl rfl fun _ _ hs163 => ?_); clear hs162
     refine sq rfl (st_add (z := (i : Int) + 1) hs163 (Ev.t 0 rfl) (.const _) rfl rfl rfl (by omega) fun _ _ hs164 => ?_); clear hs163
     have hs165 := hs164.keep [0, 1, 2, 4, 5] [_, _, _, _, _] rfl; clear hs164
     refine sq rfl (st_assign hs165 (Ev.t 0 rfl) rfl rfl fun _ _ hs166 => ?_); clear hs165
     refine wpListIn_nil ?_
     have hs167 := hs166.keep [0, 3, 4, 5] [_, _, _, _] rfl; clear hs166
     refine ⟨i + 1, ⟨?_, ?_⟩, by omega⟩
     · first | omega | (simp; done) | (simp; omega)
     exact Sx.keepE [0, 1, 2, 3] _ ⟨⟨_, rfl, rfl⟩, ⟨_, rfl, rfl⟩, ⟨_, rfl, rfl⟩, ⟨_, rfl, rfl⟩, trivial⟩ hs167
   · refine cd_exit ?_
     refine th_exit ?_
     refine th_exit ?_
     refine in_hit ?_
     refine th_norm (hK48 _ _ ?_)
     refine cd_region fun K56 hK56 => ?_
     refine sq rfl (st_move hs143 (Ev.t 2 rfl) rfl rfl fun _ _ hs144 => ?_); clear hs143
     have hs145 := hs144.keep [0, 1, 2, 3, 5] [_, _, _, _, _] rfl; clear hs144
     refine sq rfl (st_assign hs145 (Ev.t 0 rfl) rfl rfl fun _ _ hs146 => ?_); clear hs145
     refine hK56 _ _ ?_; clear hK56
     have hs147 := hs146.keep [0] [_] rfl; clear hs146
     refine cd_retv (vs := [.bool true]) hs147 hQ0 rfl ⟨.tmp 0 rfl, trivial⟩ ?_
     clear hs147 hQ0 hN0
     simp [pack, hok]

theorem allowed_v (b : Book) (A : Option Addr) (n cp : Nat) (A2 : Option Addr) (m c2 : Nat) (plan : List Walks) (w : World) (hP : PartsAt w A n b.parts) (hn : n ≤ 140737488351232) (hL : PlanAt w A2 m plan) (_hm : m ≤ 140737488351232) (hb : Bd b) :
    CallsV Tryd.prog 33 [.agg ⟨(bookL b A n cp)⟩, .slice A2 m c2] w (.bool (b.isPlan plan)) := by
 refine enter (N := 55) (M := []) w func33 rfl rfl rfl (fun Q0 a_0 hQ0 hN0 hs0 => ?_)
 refine cd_region fun K1 hK1 => ?_
 refine sq rfl (st_box hs0 (Ev.t 0 rfl) rfl rfl rfl fun b2 _ _ hs1 => ?_); clear hs0
 refine sq rfl (st_assign hs1 (.const _) rfl rfl fun _ _ hs2 => ?_); clear hs1
 refine hK1 _ _ ?_; clear hK1
 have hs3 := hs2.keep [0, 1, 3] [_, _, _] rfl; clear hs2
 refine cd_region fun K3 hK3 => ?_
 refine sq rfl (st_move hs3 (Ev.t 2 rfl) rfl rfl fun _ _ hs4 => ?_); clear hs3
 refine sq rfl (st_len hs4 (Ev.t 0 rfl) rfl rfl runUnderlying28 fun _ _ hs5 => ?_); clear hs4
 refine sq rfl (st_field (o' := 22) hs5 (Ev.t 3 rfl) rfl rfl runUnderlying27 rfl sizeOf25 rfl rfl fun _ _ hs6 => ?_); clear hs5
 refine sq rfl (st_load1 (o := 0) (off := 22) (v := .slice A n cp) hs6 (Ev.t 0 rfl) rfl rfl isAgg25 (hs6.cells 0 rfl) rfl fun _ _ hs7 => ?_); clear hs6
 refine sq rfl (st_len hs7 (Ev.t 0 rfl) rfl rfl runUnderlying25 fun _ _ hs8 => ?_); clear hs7
 refine sq rfl (st_cmp (c := ((m : Int) : Int) == (n : Int)) hs8 (Ev.t 3 rfl) (Ev.t 0 rfl) rfl rfl rfl rfl fun _ _ hs9 => ?_); clear hs8
 refine sq rfl (st_assign hs9 (Ev.t 0 rfl) rfl rfl fun _ _ hs10 => ?_); clear hs9
 refine hK3 _ _ ?_; clear hK3
 have hs11 := hs10.keep [0, 7, 8, 9] [_, _, _, _] rfl; clear hs10
 by_cases hlen : (m : Int) = (n : Int)
 · skip
   have hl1 := hL.len; have hl2 := hP.len; have hz : (plan.zip b.parts).length = m := by rw [List.length_zip]; omega
   have hs12 := Sx.keepE [0, 1, 2, 3] [(5, .bool (((plan.zip b.parts).take 0).all (fun q => okWalks q.2 q.1))), (4, _), (2, _), (1, _)] ⟨⟨_, rfl, by simp [hlen]⟩, ⟨_, rfl, rfl⟩, ⟨_, rfl, rfl⟩, ⟨_, rfl, rfl⟩, trivial⟩ hs11; clear hs11
   refine cd_seq fun K4 hK4 => ?_
   refine cd_region fun K5 hK5 => ?_
   refine sq rfl (st_assign hs12 (.const _) rfl rfl fun _ _ hs13 => ?_); clear hs12
   refine hK5 _ _ ?_; clear hK5
   refine cd_block ?_
   have hs14 : Sx 55 [] [(6, .int .i64 (0 : Int)), (5, .bool (((plan.zip b.parts).take 0).all (fun q => okWalks q.2 q.1))), (4, .bool false), (2, .pointer (some ⟨b2, 0, none⟩)), (1, .slice A2 m c2)] [(b2, some (.cells ⟨(bookL b A n cp)⟩ 27 (0, 0)))] [] w _ _ := Sx.keepE [0, 1, 2, 3, 4] _ ⟨⟨_, rfl, rfl⟩, ⟨_, rfl, rfl⟩, ⟨_, rfl, rfl⟩, ⟨_, rfl, rfl⟩, ⟨_, rfl, rfl⟩, trivial⟩ hs13; clear hs13
   refine cd_loop (X := Nat) (fun i a_ w_ => (i ≤ m) ∧ Sx 55 [] [(6, .int .i64 (i : Int)), (5, .bool (((plan.zip b.parts).take i).all (fun q => okWalks q.2 q.1))), (4, .bool false), (2, .pointer (some ⟨b2, 0, none⟩)), (1, .slice A2 m c2)] [(b2, some (.cells ⟨(bookL b A n cp)⟩ 27 (0, 0)))] [] w a_ w_) (fun i => m - i) (0) ⟨?_, hs14⟩ ?_
   · first | omega | simp
   intro i a_15 w_15 ⟨hi, hs15⟩; clear hs14
   refine cd_seq fun K6 hK6 => ?_
   refine cd_region fun K7 hK7 => ?_
   refine sq rfl (st_move hs15 (Ev.t 1 rfl) rfl rfl fun _ _ hs16 => ?_); clear hs15
   refine sq rfl (st_move hs16 (Ev.t 0 rfl) rfl rfl fun _ _ hs17 => ?_); clear hs16
   refine sq_gv hs17 (gg := ((plan.zip b.parts).take i).all (fun q => okWalks q.2 q.1)) (v := .int .i64 (i : Int)) rfl rfl 0 rfl (ison_t _) rfl rfl rfl (fun hg8 K9 hK9 => st_move hs17 (Ev.t 2 rfl) rfl rfl hK9) fun _ _ hs18 => ?_; clear hs17
   refine sq_gv hs18 (gg := ((plan.zip b.parts).take i).all (fun q => okWalks q.2 q.1)) (v := .slice A2 m c2) rfl rfl 1 rfl (ison_t _) rfl rfl rfl (fun hg10 K11 hK11 => st_move hs18 (Ev.t 7 rfl) rfl rfl hK11) fun _ _ hs19 => ?_; clear hs18
   refine sq_gv hs19 (gg := ((plan.zip b.parts).take i).all (fun q => okWalks q.2 q.1)) (v := .int .i64 (m : Int)) rfl rfl 2 rfl (ison_t _) rfl rfl rfl (fun hg12 K13 hK13 => st_len hs19 ((Ev.t 0 rfl).un hg12) rfl rfl runUnderlying28 hK13) fun _ _ hs20 => ?_; clear hs19
   refine sq_gv hs20 (gg := ((plan.zip b.parts).take i).all (fun q => okWalks q.2 q.1)) (v := .bool (decide (((i : Int) : Int) < (m : Int)))) rfl rfl 3 rfl (ison_t _) rfl rfl rfl (fun hg14 K15 hK15 => st_cmp (c := decide (((i : Int) : Int) < (m : Int))) hs20 ((Ev.t 2 rfl).un hg14) ((Ev.t 0 rfl).un hg14) rfl rfl rfl rfl hK15) fun _ _ hs21 => ?_; clear hs20
   refine sq rfl (st_and hs21 (gx := true) (gy := ((plan.zip b.parts).take i).all (fun q => okWalks q.2 q.1)) (Ev.t 4 rfl) rfl (Ev.t 0 rfl) (fun h => h) rfl rfl fun _ _ hs22 => ?_); clear hs21
   refine hK7 _ _ ?_; clear hK7
   have hs23 := hs22.keep [0, 7, 8, 9, 10, 11] [_, _, _, _, _, _] rfl; clear hs22
   refine cd_cond hs23 (Ev.t 0 rfl) (fun hc16 => ?_) (fun hc16 => ?_)
   · simp only [Bool.and_eq_true, decide_eq_true_eq] at hc16
     have hok1 := hc16.1
     have hi2 := hc16.2
     obtain ⟨x17, hx17⟩ : ∃ x, plan[i]? = some x := ⟨_, List.getElem?_eq_getElem (by have := hL.len; omega)⟩
     obtain ⟨b18, o18, hA18, -, hc18⟩ := hL.el i x17 hx17
     obtain ⟨x19, hx19⟩ : ∃ x, b.parts[i]? = some x := ⟨_, List.getElem?_eq_getElem (by have := hP.len; omega)⟩
     obtain ⟨b20, o20, hA20, -, hc20⟩ := hP.el i x19 hx19
     refine cd_skip ?_
     refine th_norm (hK6 _ _ ?_)
     refine cd_seq fun K21 hK21 => ?_
     refine cd_block ?_
     refine cd_drawn1 mixed hs23 [⟨22, [], Is (.slice A2 m c2)⟩, ⟨23, [], Is (.int .i64 (i : Int))⟩, ⟨24, [0, 1], Is (.pointer (some ⟨b18, o18 + i * 2, none⟩))⟩, ⟨25, [2], Is (.pointer (some ⟨b18, o18 + i * 2, none⟩))⟩, ⟨26, [3], Is (.int .i64 x17.c)⟩, ⟨27, [], Is (.pointer (some ⟨b2, 22, none⟩))⟩, ⟨28, [5], Is (.slice A n cp)⟩, ⟨29, [], Is (.int .i64 (i : Int))⟩, ⟨30, [6, 7], Is (.pointer (some ⟨b20, o20 + i * 4, none⟩))⟩, ⟨31, [8], Is (.pointer (some ⟨b20, o20 + i * 4 + 3, none⟩))⟩, ⟨32, [9], Is (.int .i64 x19.walks)⟩, ⟨33, [4, 10], Is (.bool (within x17.c 0 x19.walks))⟩, ⟨34, [11], Is (.bool (within x17.c 0 x19.walks))⟩, ⟨35, [12], Is (Gv (within x17.c 0 x19.walks) (.slice A2 m c2))⟩, ⟨36, [12], Is (Gv (within x17.c 0 x19.walks) (.int .i64 (i : Int)))⟩, ⟨37, [12, 13, 14], Is (Gv (within x17.c 0 x19.walks) (.pointer (some ⟨b18, o18 + i * 2, none⟩)))⟩, ⟨38, [12, 15], Is (Gv (within x17.c 0 x19.walks) (.pointer (some ⟨b18, o18 + i * 2 + 1, none⟩)))⟩, ⟨39, [12, 16], Is (Gv (within x17.c 0 x19.walks) (.int .i64 x17.w))⟩, ⟨40, [12], Is (Gv (within x17.c 0 x19.walks) (.pointer (some ⟨b2, 22, none⟩)))⟩, ⟨41, [12, 18], Is (Gv (within x17.c 0 x19.walks) (.slice A n cp))⟩, ⟨42, [12], Is (Gv (within x17.c 0 x19.walks) (.int .i64 (i : Int)))⟩, ⟨43, [12, 19, 20], Is (Gv (within x17.c 0 x19.walks) (.pointer (some ⟨b20, o20 + i * 4, none⟩)))⟩, ⟨44, [12, 21], Is (Gv (within x17.c 0 x19.walks) (.pointer (some ⟨b20, o20 + i * 4 + 3, none⟩)))⟩, ⟨45, [12, 22], Is (Gv (within x17.c 0 x19.walks) (.int .i64 x19.walks))⟩, ⟨46, [12], Is (Gv (within x17.c 0 x19.walks) (.slice A2 m c2))⟩, ⟨47, [12], Is (Gv (within x17.c 0 x19.walks) (.int .i64 (i : Int)))⟩, ⟨48, [12, 24, 25], Is (Gv (within x17.c 0 x19.walks) (.pointer (some ⟨b18, o18 + i * 2, none⟩)))⟩, ⟨49, [12, 26], Is (Gv (within x17.c 0 x19.walks) (.pointer (some ⟨b18, o18 + i * 2, none⟩)))⟩, ⟨50, [12, 27], Is (Gv (within x17.c 0 x19.walks) (.int .i64 x17.c))⟩, ⟨51, [12, 23, 28], Is (Gv (within x17.c 0 x19.walks) (.int .i64 (x19.walks - x17.c)))⟩, ⟨52, [12, 17, 29], Is (Gv (within x17.c 0 x19.walks) (.bool (within x17.w 0 (x19.walks - x17.c))))⟩, ⟨53, [12, 30], Is (.bool ((within x17.c 0 x19.walks) && (within x17.w 0 (x19.walks - x17.c))))⟩] (by kernel_rfl) (by kernel_rfl) ⟨⟨?_, ?_, ?_, ?_, ?_, ?_, ?_, ?_, ?_, ?_, ?_, ?_, ?_, ?_, ?_, ?_, ?_, ?_, ?_, ?_, ?_, ?_, ?_, ?_, ?_, ?_, ?_, ?_, ?_, ?_, ?_, ?_, trivial⟩, ?_⟩
     · rintro T_ B_ a_ w_ K_ hT hB hf hsD hk
       exact ob rfl rfl (st_move hsD (evT hT 5 rfl) rfl hf fun _ _ => hk _ _ _ _ ⟨rfl, rfl⟩)
     · rintro T_ B_ a_ w_ K_ hT hB hf hsD hk
       exact ob rfl rfl (st_move hsD (evT hT 1 rfl) rfl hf fun _ _ => hk _ _ _ _ ⟨rfl, rfl⟩)
     · rintro T_ B_ a_ w_ K_ hT hB _ _ ⟨rfl, rfl⟩ h22 - _ _ ⟨rfl, rfl⟩ h23 - hf hsD hk
       exact ob rfl rfl (st_indexM (o' := o18 + i * 2) hsD (Ev.tmp h22) (Ev.tmp h23) rfl hf hA18 runUnderlying28 sizeOf64 ⟨by omega, by have := hL.len; have := (List.getElem?_eq_some_iff.1 hx17).1; omega⟩ rfl fun _ _ => hk _ _ _ _ ⟨rfl, rfl⟩)
     · rintro T_ B_ a_ w_ K_ hT hB _ _ ⟨rfl, rfl⟩ h24 - hf hsD hk
       exact ob rfl rfl (st_field (o' := o18 + i * 2) hsD (Ev.tmp h24) rfl hf runUnderlying64 rfl sizeOf3 rfl rfl fun _ _ => hk _ _ _ _ ⟨rfl, rfl⟩)
     · rintro T_ B_ a_ w_ K_ hT hB _ _ ⟨rfl, rfl⟩ h25 - hf hsD hk
       exact ob rfl rfl (st_load1 (o := o18 + i * 2) (off := 0) (v := .int .i64 x17.c) hsD (Ev.tmp h25) rfl hf isAgg3 (hsD.old hc18 (by simp)) rfl fun _ _ => hk _ _ _ _ ⟨rfl, rfl⟩)
     · rintro T_ B_ a_ w_ K_ hT hB hf hsD hk
       exact ob rfl rfl (st_field (o' := 22) hsD (evT hT 4 rfl) rfl hf runUnderlying27 rfl sizeOf25 rfl rfl fun _ _ => hk _ _ _ _ ⟨rfl, rfl⟩)
     · rintro T_ B_ a_ w_ K_ hT hB _ _ ⟨rfl, rfl⟩ h27 - hf hsD hk
       exact ob rfl rfl (st_load1 (o := 0) (off := 22) (v := .slice A n cp) hsD (Ev.tmp h27) rfl hf isAgg25 (hsD.cellsM (inB hB 0 rfl)) rfl fun _ _ => hk _ _ _ _ ⟨rfl, rfl⟩)
     · rintro T_ B_ a_ w_ K_ hT hB hf hsD hk
       exact ob rfl rfl (st_move hsD (evT hT 1 rfl) rfl hf fun _ _ => hk _ _ _ _ ⟨rfl, rfl⟩)
     · rintro T_ B_ a_ w_ K_ hT hB _ _ ⟨rfl, rfl⟩ h28 - _ _ ⟨rfl, rfl⟩ h29 - hf hsD hk
       exact ob rfl rfl (st_indexM (o' := o20 + i * 4) hsD (Ev.tmp h28) (Ev.tmp h29) rfl hf hA20 runUnderlying25 sizeOf66 ⟨by omega, by have := hP.len; have := (List.getElem?_eq_some_iff.1 hx19).1; omega⟩ rfl fun _ _ => hk _ _ _ _ ⟨rfl, rfl⟩)
     · rintro T_ B_ a_ w_ K_ hT hB _ _ ⟨rfl, rfl⟩ h30 - hf hsD hk
       exact ob rfl rfl (st_field (o' := o20 + i * 4 + 3) hsD (Ev.tmp h30) rfl hf runUnderlying66 rfl sizeOf3 rfl rfl fun _ _ => hk _ _ _ _ ⟨rfl, rfl⟩)
     · rintro T_ B_ a_ w_ K_ hT hB _ _ ⟨rfl, rfl⟩ h31 - hf hsD hk
       exact ob rfl rfl (st_load1 (o := o20 + i * 4) (off := 3) (v := .int .i64 x19.walks) hsD (Ev.tmp h31) rfl hf isAgg3 (hsD.old hc20 (by simp)) rfl fun _ _ => hk _ _ _ _ ⟨rfl, rfl⟩)
     · rintro T_ B_ a_ w_ K_ hT hB _ _ ⟨rfl, rfl⟩ h26 - _ _ ⟨rfl, rfl⟩ h32 - hf hsD hk
       exact ob rfl rfl (st_callv (vs := [.int .i64 x17.c, .int .i64 0, .int .i64 x19.walks]) hsD (.func _) ⟨(Ev.tmp h26), (.const _), (Ev.tmp h32), trivial⟩ rfl hf call37 rfl (amid_v x17.c 0 x19.walks _) fun _ _ => hk _ _ _ _ ⟨rfl, rfl⟩)
     · rintro T_ B_ a_ w_ K_ hT hB _ _ ⟨rfl, rfl⟩ h33 - hf hsD hk
       exact ob rfl rfl (st_move hsD (Ev.tmp h33) rfl hf fun _ _ => hk _ _ _ _ ⟨rfl, rfl⟩)
     · rintro T_ B_ a_ w_ K_ hT hB _ _ ⟨rfl, rfl⟩ h34 - hf hsD hk
       exact ob_gv hsD (gg := within x17.c 0 x19.walks) (v := .slice A2 m c2) rfl rfl rfl h34 (ison_t _) rfl rfl hf (fun hg K1 hK1 => st_move hsD (evT hT 5 rfl) rfl hf hK1) fun _ _ => hk _ _ _ _ ⟨rfl, rfl⟩
     · rintro T_ B_ a_ w_ K_ hT hB _ _ ⟨rfl, rfl⟩ h34 - hf hsD hk
       exact ob_gv hsD (gg := within x17.c 0 x19.walks) (v := .int .i64 (i : Int)) rfl rfl rfl h34 (ison_t _) rfl rfl hf (fun hg K1 hK1 => st_move hsD (evT hT 1 rfl) rfl hf hK1) fun _ _ => hk _ _ _ _ ⟨rfl, rfl⟩
     · rintro T_ B_ a_ w_ K_ hT hB _ _ ⟨rfl, rfl⟩ h34 - _ _ ⟨rfl, rfl⟩ h35 - _ _ ⟨rfl, rfl⟩ h36 - hf hsD hk
       exact ob_gv hsD (gg := within x17.c 0 x19.walks) (v := .pointer (some ⟨b18, o18 + i * 2, none⟩)) rfl rfl rfl h34 (ison_t _) rfl rfl hf (fun hg K1 hK1 => st_indexM (o' := o18 + i * 2) hsD ((Ev.tmp h35).un hg) ((Ev.tmp h36).un hg) rfl hf hA18 runUnderlying28 sizeOf64 ⟨by omega, by have := hL.len; have := (List.getElem?_eq_some_iff.1 hx17).1; omega⟩ rfl hK1) fun _ _ => hk _ _ _ _ ⟨rfl, rfl⟩
     · rintro T_ B_ a_ w_ K_ hT hB _ _ ⟨rfl, rfl⟩ h34 - _ _ ⟨rfl, rfl⟩ h37 - hf hsD hk
       exact ob_gv hsD (gg := within x17.c 0 x19.walks) (v := .pointer (some ⟨b18, o18 + i * 2 + 1, none⟩)) rfl rfl rfl h34 (ison_t _) rfl rfl hf (fun hg K1 hK1 => st_field (o' := o18 + i * 2 + 1) hsD ((Ev.tmp h37).un hg) rfl hf runUnderlying64 rfl sizeOf3 rfl rfl hK1) fun _ _ => hk _ _ _ _ ⟨rfl, rfl⟩
     · rintro T_ B_ a_ w_ K_ hT hB _ _ ⟨rfl, rfl⟩ h34 - _ _ ⟨rfl, rfl⟩ h38 - hf hsD hk
       exact ob_gv hsD (gg := within x17.c 0 x19.walks) (v := .int .i64 x17.w) rfl rfl rfl h34 (ison_t _) rfl rfl hf (fun hg K1 hK1 => st_load1 (o := o18 + i * 2) (off := 1) (v := .int .i64 x17.w) hsD ((Ev.tmp h38).un hg) rfl hf isAgg3 (hsD.old hc18 (by simp)) rfl hK1) fun _ _ => hk _ _ _ _ ⟨rfl, rfl⟩
     · rintro T_ B_ a_ w_ K_ hT hB _ _ ⟨rfl, rfl⟩ h34 - hf hsD hk
       exact ob_gv hsD (gg := within x17.c 0 x19.walks) (v := .pointer (some ⟨b2, 22, none⟩)) rfl rfl rfl h34 (ison_t _) rfl rfl hf (fun hg K1 hK1 => st_field (o' := 22) hsD (evT hT 4 rfl) rfl hf runUnderlying27 rfl sizeOf25 rfl rfl hK1) fun _ _ => hk _ _ _ _ ⟨rfl, rfl⟩
     · rintro T_ B_ a_ w_ K_ hT hB _ _ ⟨rfl, rfl⟩ h34 - _ _ ⟨rfl, rfl⟩ h40 - hf hsD hk
       exact ob_gv hsD (gg := within x17.c 0 x19.walks) (v := .slice A n cp) rfl rfl rfl h34 (ison_t _) rfl rfl hf (fun hg K1 hK1 => st_load1 (o := 0) (off := 22) (v := .slice A n cp) hsD ((Ev.tmp h40).un hg) rfl hf isAgg25 (hsD.cellsM (inB hB 0 rfl)) rfl hK1) fun _ _ => hk _ _ _ _ ⟨rfl, rfl⟩
     · rintro T_ B_ a_ w_ K_ hT hB _ _ ⟨rfl, rfl⟩ h34 - hf hsD hk
       exact ob_gv hsD (gg := within x17.c 0 x19.walks) (v := .int .i64 (i : Int)) rfl rfl rfl h34 (ison_t _) rfl rfl hf (fun hg K1 hK1 => st_move hsD (evT hT 1 rfl) rfl hf hK1) fun _ _ => hk _ _ _ _ ⟨rfl, rfl⟩
     · rintro T_ B_ a_ w_ K_ hT hB _ _ ⟨rfl, rfl⟩ h34 - _ _ ⟨rfl, rfl⟩ h41 - _ _ ⟨rfl, rfl⟩ h42 - hf hsD hk
       exact ob_gv hsD (gg := within x17.c 0 x19.walks) (v := .pointer (some ⟨b20, o20 + i * 4, none⟩)) rfl rfl rfl h34 (ison_t _) rfl rfl hf (fun hg K1 hK1 => st_indexM (o' := o20 + i * 4) hsD ((Ev.tmp h41).un hg) ((Ev.tmp h42).un hg) rfl hf hA20 runUnderlying25 sizeOf66 ⟨by omega, by have := hP.len; have := (List.getElem?_eq_some_iff.1 hx19).1; omega⟩ rfl hK1) fun _ _ => hk _ _ _ _ ⟨rfl, rfl⟩
     · rintro T_ B_ a_ w_ K_ hT hB _ _ ⟨rfl, rfl⟩ h34 - _ _ ⟨rfl, rfl⟩ h43 - hf hsD hk
       exact ob_gv hsD (gg := within x17.c 0 x19.walks) (v := .pointer (some ⟨b20, o20 + i * 4 + 3, none⟩)) rfl rfl rfl h34 (ison_t _) rfl rfl hf (fun hg K1 hK1 => st_field (o' := o20 + i * 4 + 3) hsD ((Ev.tmp h43).un hg) rfl hf runUnderlying66 rfl sizeOf3 rfl rfl hK1) fun _ _ => hk _ _ _ _ ⟨rfl, rfl⟩
     · rintro T_ B_ a_ w_ K_ hT hB _ _ ⟨rfl, rfl⟩ h34 - _ _ ⟨rfl, rfl⟩ h44 - hf hsD hk
       exact ob_gv hsD (gg := within x17.c 0 x19.walks) (v := .int .i64 x19.walks) rfl rfl rfl h34 (ison_t _) rfl rfl hf (fun hg K1 hK1 => st_load1 (o := o20 + i * 4) (off := 3) (v := .int .i64 x19.walks) hsD ((Ev.tmp h44).un hg) rfl hf isAgg3 (hsD.old hc20 (by simp)) rfl hK1) fun _ _ => hk _ _ _ _ ⟨rfl, rfl⟩
     · rintro T_ B_ a_ w_ K_ hT hB _ _ ⟨rfl, rfl⟩ h34 - hf hsD hk
       exact ob_gv hsD (gg := within x17.c 0 x19.walks) (v := .slice A2 m c2) rfl rfl rfl h34 (ison_t _) rfl rfl hf (fun hg K1 hK1 => st_move hsD (evT hT 5 rfl) rfl hf hK1) fun _ _ => hk _ _ _ _ ⟨rfl, rfl⟩
     · rintro T_ B_ a_ w_ K_ hT hB _ _ ⟨rfl, rfl⟩ h34 - hf hsD hk
       exact ob_gv hsD (gg := within x17.c 0 x19.walks) (v := .int .i64 (i : Int)) rfl rfl rfl h34 (ison_t _) rfl rfl hf (fun hg K1 hK1 => st_move hsD (evT hT 1 rfl) rfl hf hK1) fun _ _ => hk _ _ _ _ ⟨rfl, rfl⟩
     · rintro T_ B_ a_ w_ K_ hT hB _ _ ⟨rfl, rfl⟩ h34 - _ _ ⟨rfl, rfl⟩ h46 - _ _ ⟨rfl, rfl⟩ h47 - hf hsD hk
       exact ob_gv hsD (gg := within x17.c 0 x19.walks) (v := .pointer (some ⟨b18, o18 + i * 2, none⟩)) rfl rfl rfl h34 (ison_t _) rfl rfl hf (fun hg K1 hK1 => st_indexM (o' := o18 + i * 2) hsD ((Ev.tmp h46).un hg) ((Ev.tmp h47).un hg) rfl hf hA18 runUnderlying28 sizeOf64 ⟨by omega, by have := hL.len; have := (List.getElem?_eq_some_iff.1 hx17).1; omega⟩ rfl hK1) fun _ _ => hk _ _ _ _ ⟨rfl, rfl⟩
     · rintro T_ B_ a_ w_ K_ hT hB _ _ ⟨rfl, rfl⟩ h34 - _ _ ⟨rfl, rfl⟩ h48 - hf hsD hk
       exact ob_gv hsD (gg := within x17.c 0 x19.walks) (v := .pointer (some ⟨b18, o18 + i * 2, none⟩)) rfl rfl rfl h34 (ison_t _) rfl rfl hf (fun hg K1 hK1 => st_field (o' := o18 + i * 2) hsD ((Ev.tmp h48).un hg) rfl hf runUnderlying64 rfl sizeOf3 rfl rfl hK1) fun _ _ => hk _ _ _ _ ⟨rfl, rfl⟩
     · rintro T_ B_ a_ w_ K_ hT hB _ _ ⟨rfl, rfl⟩ h34 - _ _ ⟨rfl, rfl⟩ h49 - hf hsD hk
       exact ob_gv hsD (gg := within x17.c 0 x19.walks) (v := .int .i64 x17.c) rfl rfl rfl h34 (ison_t _) rfl rfl hf (fun hg K1 hK1 => st_load1 (o := o18 + i * 2) (off := 0) (v := .int .i64 x17.c) hsD ((Ev.tmp h49).un hg) rfl hf isAgg3 (hsD.old hc18 (by simp)) rfl hK1) fun _ _ => hk _ _ _ _ ⟨rfl, rfl⟩
     · rintro T_ B_ a_ w_ K_ hT hB _ _ ⟨rfl, rfl⟩ h34 - _ _ ⟨rfl, rfl⟩ h45 - _ _ ⟨rfl, rfl⟩ h50 - hf hsD hk
       exact ob_gv hsD (gg := within x17.c 0 x19.walks) (v := .int .i64 (x19.walks - x17.c)) rfl rfl rfl h34 (ison_t _) rfl rfl hf (fun hg K1 hK1 => st_sub (z := x19.walks - x17.c) hsD ((Ev.tmp h45).un hg) ((Ev.tmp h50).un hg) rfl hf rfl (by have h1 := (hb.parts i x19 hx19).2; simp [within] at hg; omega) hK1) fun _ _ => hk _ _ _ _ ⟨rfl, rfl⟩
     · rintro T_ B_ a_ w_ K_ hT hB _ _ ⟨rfl, rfl⟩ h34 - _ _ ⟨rfl, rfl⟩ h39 - _ _ ⟨rfl, rfl⟩ h51 - hf hsD hk
       exact ob_gv hsD (gg := within x17.c 0 x19.walks) (v := .bool (within x17.w 0 (x19.walks - x17.c))) rfl rfl rfl h34 (ison_t _) rfl rfl hf (fun hg K1 hK1 => st_callv (vs := [.int .i64 x17.w, .int .i64 0, .int .i64 (x19.walks - x17.c)]) hsD (.func _) ⟨((Ev.tmp h39).un hg), (.const _), ((Ev.tmp h51).un hg), trivial⟩ rfl hf call37 rfl (amid_v x17.w 0 (x19.walks - x17.c) _) hK1) fun _ _ => hk _ _ _ _ ⟨rfl, rfl⟩
     · rintro T_ B_ a_ w_ K_ hT hB _ _ ⟨rfl, rfl⟩ h34 - _ _ ⟨rfl, rfl⟩ h52 - hf hsD hk
       exact ob rfl rfl (st_and hsD (gx := true) (gy := within x17.c 0 x19.walks) (Ev.tmp h34) rfl (Ev.tmp h52) (fun h => h) rfl hf fun _ _ => hk _ _ _ _ ⟨rfl, rfl⟩)
     rintro _ _ ⟨rfl, rfl⟩ _ _ ⟨rfl, rfl⟩ _ _ ⟨rfl, rfl⟩ _ _ ⟨rfl, rfl⟩ _ _ ⟨rfl, rfl⟩ _ _ ⟨rfl, rfl⟩ _ _ ⟨rfl, rfl⟩ _ _ ⟨rfl, rfl⟩ _ _ ⟨rfl, rfl⟩ _ _ ⟨rfl, rfl⟩ _ _ ⟨rfl, rfl⟩ _ _ ⟨rfl, rfl⟩ _ _ ⟨rfl, rfl⟩ _ _ ⟨rfl, rfl⟩ _ _ ⟨rfl, rfl⟩ _ _ ⟨rfl, rfl⟩ _ _ ⟨rfl, rfl⟩ _ _ ⟨rfl, rfl⟩ _ _ ⟨rfl, rfl⟩ _ _ ⟨rfl, rfl⟩ _ _ ⟨rfl, rfl⟩ _ _ ⟨rfl, rfl⟩ _ _ ⟨rfl, rfl⟩ _ _ ⟨rfl, rfl⟩ _ _ ⟨rfl, rfl⟩ _ _ ⟨rfl, rfl⟩ _ _ ⟨rfl, rfl⟩ _ _ ⟨rfl, rfl⟩ _ _ ⟨rfl, rfl⟩ _ _ ⟨rfl, rfl⟩ _ _ ⟨rfl, rfl⟩ _ _ ⟨rfl, rfl⟩ a_24 w_24 hs24; clear hs23
     have hs25 := Sx.as (T' := [_, _, _, _, _, _, _, _, _, _, _, _, _, _, _, _, _, _, _, _, _, _, _, _, _, _, _, _, _, _, _, _, _, _, _, _, _, _]) (B' := [_]) rfl rfl hs24; clear hs24
     have hs26 := hs25.keep [0, 1, 2, 3, 4, 5, 6, 7, 8, 9, 10, 11, 12, 13, 14, 15, 16, 17, 18, 19, 20, 21, 22, 23, 24, 25, 26, 27, 28, 29, 30, 31, 32, 33, 35, 36, 37] [_, _, _, _, _, _, _, _, _, _, _, _, _, _, _, _, _, _, _, _, _, _, _, _, _, _, _, _, _, _, _, _, _, _, _, _, _] rfl; clear hs25
     refine sq rfl (st_assign hs26 (Ev.t 31 rfl) rfl rfl fun _ _ hs27 => ?_); clear hs26
     refine wpListIn_nil ?_
     have hs28 := hs27.keep [0, 34, 35, 36, 37] [_, _, _, _, _] rfl; clear hs27
     refine in_norm ?_
     refine th_norm (hK21 _ _ ?_)
     refine cd_region1 ?_
     refine sq rfl (st_move hs28 (Ev.t 1 rfl) rfl rfl fun _ _ hs29 => ?_); clear hs28
     refine sq rfl (st_add (z := (i : Int) + 1) hs29 (Ev.t 0 rfl) (.const _) rfl rfl rfl (by omega) fun _ _ hs30 => ?_); clear hs29
     have hs31 := hs30.keep [0, 1, 2, 4, 5, 6] [_, _, _, _, _, _] rfl; clear hs30
     refine sq rfl (st_assign hs31 (Ev.t 0 rfl) rfl rfl fun _ _ hs32 => ?_); clear hs31
     refine wpListIn_nil ?_
     have hs33 := hs32.keep [0, 3, 4, 5, 6] [_, _, _, _, _] rfl; clear hs32
     refine ⟨i + 1, ⟨?_, ?_⟩, by omega⟩
     · first | omega | (simp; done) | (simp; omega)
     exact Sx.keepE [0, 1, 2, 3, 4] _ ⟨⟨_, rfl, rfl⟩, ⟨_, rfl, by rw [all_snoc (zip_at hx17 hx19), hok1]; simp [okWalks]⟩, ⟨_, rfl, rfl⟩, ⟨_, rfl, rfl⟩, ⟨_, rfl, rfl⟩, trivial⟩ hs33
   · have hall := take_done hz hc16
     refine cd_exit ?_
     refine th_exit ?_
     refine th_exit ?_
     refine in_hit ?_
     refine th_norm (hK4 _ _ ?_)
     refine cd_region fun K22 hK22 => ?_
     refine sq rfl (st_move hs23 (Ev.t 2 rfl) rfl rfl fun _ _ hs24 => ?_); clear hs23
     have hs25 := hs24.keep [0, 1, 2, 3, 5, 6] [_, _, _, _, _, _] rfl; clear hs24
     refine sq rfl (st_assign hs25 (Ev.t 0 rfl) rfl rfl fun _ _ hs26 => ?_); clear hs25
     refine hK22 _ _ ?_; clear hK22
     have hs27 := hs26.keep [0] [_] rfl; clear hs26
     refine cd_retv (vs := [.bool (((plan.zip b.parts).take i).all (fun q => okWalks q.2 q.1))]) hs27 hQ0 rfl ⟨.tmp 0 rfl, trivial⟩ ?_
     clear hs27 hQ0 hN0
     show Value.bool _ = Value.bool _
     first | (rw [hall]; have e : plan.length = b.parts.length := (by omega); simp [Book.isPlan, e]; done) | (have e : plan.length ≠ b.parts.length := (by omega); simp [Book.isPlan, e])
 · skip
   have hl1 := hL.len; have hl2 := hP.len
   have hs12 := Sx.keepE [0, 1, 2, 3] [(5, .bool false), (4, _), (2, _), (1, _)] ⟨⟨_, rfl, by simp [hlen]⟩, ⟨_, rfl, rfl⟩, ⟨_, rfl, rfl⟩, ⟨_, rfl, rfl⟩, trivial⟩ hs11; clear hs11
   refine cd_seq fun K23 hK23 => ?_
   refine cd_region fun K24 hK24 => ?_
   refine sq rfl (st_assign hs12 (.const _) rfl rfl fun _ _ hs13 => ?_); clear hs12
   refine hK24 _ _ ?_; clear hK24
   refine cd_block ?_
   refine cd_rounds 1 ?_
   refine cd_round fun K25 hK25 => ?_
   refine cd_seq fun K26 hK26 => ?_
   refine cd_region fun K27 hK27 => ?_
   refine sq rfl (st_move hs13 (Ev.t 1 rfl) rfl rfl fun _ _ hs14 => ?_); clear hs13
   refine sq rfl (st_move hs14 (Ev.t 0 rfl) rfl rfl fun _ _ hs15 => ?_); clear hs14
   refine sq_off hs15 rfl rfl 0 rfl rfl rfl rfl rfl fun _ _ hs16 => ?_; clear hs15
   refine sq_off hs16 rfl rfl 1 rfl rfl rfl rfl rfl fun _ _ hs17 => ?_; clear hs16
   refine sq_off hs17 rfl rfl 2 rfl rfl rfl rfl rfl fun _ _ hs18 => ?_; clear hs17
   refine sq_off hs18 rfl rfl 3 rfl rfl rfl rfl rfl fun _ _ hs19 => ?_; clear hs18
   refine sq rfl (st_pick hs19 (Ev.t 4 rfl) rfl rfl (fun h => by cases h) (fun h => (.const _)) fun _ _ hs20 => ?_); clear hs19
   refine hK27 _ _ ?_; clear hK27
   have hs21 := hs20.keep [0, 7, 8, 9, 10, 11] [_, _, _, _, _, _] rfl; clear hs20
   have hc28 : false = false := rfl
   refine cd_cond hs21 (Ev.t 0 rfl) (fun h => absurd (hc28.symm.trans h) (by decide)) (fun _ => ?_)
   refine cd_exit ?_
   refine th_exit ?_
   refine th_exit ?_
   refine in_hit ?_
   refine th_norm (hK23 _ _ ?_)
   refine cd_region fun K29 hK29 => ?_
   refine sq rfl (st_move hs21 (Ev.t 2 rfl) rfl rfl fun _ _ hs22 => ?_); clear hs21
   have hs23 := hs22.keep [0, 1, 2, 3, 5, 6] [_, _, _, _, _, _] rfl; clear hs22
   refine sq rfl (st_assign hs23 (Ev.t 0 rfl) rfl rfl fun _ _ hs24 => ?_); clear hs23
   refine hK29 _ _ ?_; clear hK29
   have hs25 := hs24.keep [0] [_] rfl; clear hs24
   refine cd_retv (vs := [.bool false]) hs25 hQ0 rfl ⟨.tmp 0 rfl, trivial⟩ ?_
   clear hs25 hQ0 hN0
   show Value.bool _ = Value.bool _
   first | (rw [hall]; have e : plan.length = b.parts.length := (by omega); simp [Book.isPlan, e]; done) | (have e : plan.length ≠ b.parts.length := (by omega); simp [Book.isPlan, e])

theorem turn_v (x m : Int) (hm : m ≤ 4611686018427387904) (w : World)  :
    CallsV Tryd.prog 38 [.int .i64 x, .int .i64 m] w (.int .i64 (turn x m)) := by
 refine enter (N := 17) (M := []) w func38 rfl rfl rfl (fun Q0 a_0 hQ0 hN0 hs0 => ?_)
 refine cd_region fun K1 hK1 => ?_
 refine sq rfl (st_assign hs0 (.const _) rfl rfl fun _ _ hs1 => ?_); clear hs0
 refine hK1 _ _ ?_; clear hK1
 refine cd_seq fun K2 hK2 => ?_
 refine cd_region fun K3 hK3 => ?_
 refine sq rfl (st_move hs1 (Ev.t 2 rfl) rfl rfl fun _ _ hs2 => ?_); clear hs1
 refine sq rfl (st_cmp (c := decide ((m : Int) < 1)) hs2 (Ev.t 0 rfl) (.const _) rfl rfl rfl rfl fun _ _ hs3 => ?_); clear hs2
 refine hK3 _ _ ?_; clear hK3
 have hs4 := hs3.keep [0, 2, 3, 4] [_, _, _, _] rfl; clear hs3
 refine cd_cond hs4 (Ev.t 0 rfl) (fun hc4 => ?_) (fun hc4 => ?_)
 · have hlt : m < 1 := by simpa using hc4
   refine cd_region fun K5 hK5 => ?_
   have hs5 := hs4.keep [0, 2, 3] [_, _, _] rfl; clear hs4
   refine sq rfl (st_assign hs5 (.const _) rfl rfl fun _ _ hs6 => ?_); clear hs5
   refine hK5 _ _ ?_; clear hK5
   have hs7 := hs6.keep [0] [_] rfl; clear hs6
   refine cd_retv (vs := [.int .i64 0]) hs7 (fun a_ w_ h => th_ret (hQ0 a_ w_ h)) rfl ⟨.tmp 0 rfl, trivial⟩ ?_
   clear hs7 hQ0 hN0 hK2
   first | (simp [pack, turn, hlt, hneg]; done) | simp [pack, turn, hlt]
 · have hlt : ¬ m < 1 := by simpa using hc4
   have ht1 := Int.tmod_lt_of_pos x (show 0 < m by omega)
   have ht2 := Int.tmod_lt_of_pos (-x) (show 0 < m by omega)
   rw [Int.neg_tmod] at ht2
   refine cd_skip ?_
   refine th_norm (hK2 _ _ ?_)
   refine cd_region fun K6 hK6 => ?_
   refine sq rfl (st_move hs4 (Ev.t 2 rfl) rfl rfl fun _ _ hs5 => ?_); clear hs4
   refine sq rfl (st_move hs5 (Ev.t 4 rfl) rfl rfl fun _ _ hs6 => ?_); clear hs5
   refine sq rfl (st_rem hs6 (Ev.t 1 rfl) (Ev.t 0 rfl) rfl rfl (by omega) fun _ _ hs7 => ?_); clear hs6
   refine sq rfl (st_assign hs7 (Ev.t 0 rfl) rfl rfl fun _ _ hs8 => ?_); clear hs7
   refine hK6 _ _ ?_; clear hK6
   have hs9 := hs8.keep [0, 5, 7] [_, _, _] rfl; clear hs8
   refine cd_seq fun K7 hK7 => ?_
   refine cd_region fun K8 hK8 => ?_
   refine sq rfl (st_move hs9 (Ev.t 0 rfl) rfl rfl fun _ _ hs10 => ?_); clear hs9
   refine sq rfl (st_cmp (c := decide (((x : Int).tmod m : Int) < 0)) hs10 (Ev.t 0 rfl) (.const _) rfl rfl rfl rfl fun _ _ hs11 => ?_); clear hs10
   refine hK8 _ _ ?_; clear hK8
   have hs12 := hs11.keep [0, 2, 3, 4] [_, _, _, _] rfl; clear hs11
   refine cd_cond hs12 (Ev.t 0 rfl) (fun hc9 => ?_) (fun hc9 => ?_)
   · have hneg : x.tmod m < 0 := by simpa using hc9
     refine cd_region1 ?_
     refine sq rfl (st_move hs12 (Ev.t 1 rfl) rfl rfl fun _ _ hs13 => ?_); clear hs12
     refine sq rfl (st_move hs13 (Ev.t 4 rfl) rfl rfl fun _ _ hs14 => ?_); clear hs13
     refine sq rfl (st_add (z := ((x : Int).tmod m) + m) hs14 (Ev.t 1 rfl) (Ev.t 0 rfl) rfl rfl rfl (by omega) fun _ _ hs15 => ?_); clear hs14
     have hs16 := hs15.keep [0, 1, 2, 3, 5, 6] [_, _, _, _, _, _] rfl; clear hs15
     refine sq rfl (st_assign hs16 (Ev.t 0 rfl) rfl rfl fun _ _ hs17 => ?_); clear hs16
     refine wpListIn_nil ?_
     have hs18 := hs17.keep [0, 5] [_, _] rfl; clear hs17
     refine th_norm (hK7 _ _ ?_)
     refine cd_region fun K10 hK10 => ?_
     refine sq rfl (st_move hs18 (Ev.t 0 rfl) rfl rfl fun _ _ hs19 => ?_); clear hs18
     have hs20 := hs19.keep [0, 1] [_, _] rfl; clear hs19
     refine sq rfl (st_assign hs20 (Ev.t 0 rfl) rfl rfl fun _ _ hs21 => ?_); clear hs20
     refine hK10 _ _ ?_; clear hK10
     have hs22 := hs21.keep [0] [_] rfl; clear hs21
     refine cd_retv (vs := [.int .i64 (((x : Int).tmod m) + m)]) hs22 hQ0 rfl ⟨.tmp 0 rfl, trivial⟩ ?_
     clear hs22 hQ0 hN0
     first | (simp [pack, turn, hlt, hneg]; done) | simp [pack, turn, hlt]
   · have hneg : ¬ x.tmod m < 0 := by simpa using hc9
     refine cd_skip ?_
     refine th_norm (hK7 _ _ ?_)
     refine cd_region fun K11 hK11 => ?_
     refine sq rfl (st_move hs12 (Ev.t 1 rfl) rfl rfl fun _ _ hs13 => ?_); clear hs12
     have hs14 := hs13.keep [0, 1, 2, 4] [_, _, _, _] rfl; clear hs13
     refine sq rfl (st_assign hs14 (Ev.t 0 rfl) rfl rfl fun _ _ hs15 => ?_); clear hs14
     refine hK11 _ _ ?_; clear hK11
     have hs16 := hs15.keep [0] [_] rfl; clear hs15
     refine cd_retv (vs := [.int .i64 ((x : Int).tmod m)]) hs16 hQ0 rfl ⟨.tmp 0 rfl, trivial⟩ ?_
     clear hs16 hQ0 hN0
     first | (simp [pack, turn, hlt, hneg]; done) | simp [pack, turn, hlt]

theorem pick_v (A4 : Option Addr) (m4 c4 : Nat) (bits : List Int) (k : Int) (w : World) (hI : SlAt intL 1 w A4 m4 bits) (hm4 : m4 ≤ 140737488351232) :
    CallsV Tryd.prog 67 [.slice A4 m4 c4, .int .i64 k] w (.int .i64 (pickN bits k)) := by
 have hl4 := hI.len
 refine enter (N := 15) (M := []) w func67 rfl rfl rfl (fun Q0 a_0 hQ0 hN0 hs0 => ?_)
 refine cd_region fun K1 hK1 => ?_
 refine sq rfl (st_assign hs0 (.const _) rfl rfl fun _ _ hs1 => ?_); clear hs0
 refine hK1 _ _ ?_; clear hK1
 refine cd_seq fun K2 hK2 => ?_
 refine cd_region fun K3 hK3 => ?_
 refine sq rfl (st_move hs1 (Ev.t 1 rfl) rfl rfl fun _ _ hs2 => ?_); clear hs1
 refine sq rfl (st_len hs2 (Ev.t 0 rfl) rfl rfl runUnderlying47 fun _ _ hs3 => ?_); clear hs2
 refine sq rfl (st_cmp (c := ((m4 : Int) : Int) == 0) hs3 (Ev.t 0 rfl) (.const _) rfl rfl rfl rfl fun _ _ hs4 => ?_); clear hs3
 refine hK3 _ _ ?_; clear hK3
 have hs5 := hs4.keep [0, 3, 4, 5] [_, _, _, _] rfl; clear hs4
 refine cd_cond hs5 (Ev.t 0 rfl) (fun hc4 => ?_) (fun hc4 => ?_)
 · have hz : bits.length = 0 := by simp at hc4; omega
   refine cd_region fun K5 hK5 => ?_
   have hs6 := hs5.keep [0, 2, 3] [_, _, _] rfl; clear hs5
   refine sq rfl (st_assign hs6 (.const _) rfl rfl fun _ _ hs7 => ?_); clear hs6
   refine hK5 _ _ ?_; clear hK5
   have hs8 := hs7.keep [0] [_] rfl; clear hs7
   refine cd_retv (vs := [.int .i64 0]) hs8 (fun a_ w_ h => th_ret (hQ0 a_ w_ h)) rfl ⟨.tmp 0 rfl, trivial⟩ ?_
   clear hs8 hQ0 hN0 hK2
   first | (simp [pack, pickN, hz]; done) | (have hne : ¬ bits.length = 0 := (by omega); simp only [pack, pickN, ← hl4, ← hq, Int.toNat_natCast]; simp_all)
 · have hpos : 0 < bits.length := by simp at hc4; omega
   have htb := turn_bd (n := k) (m := (m4 : Int)) (by omega)
   obtain ⟨q, hq⟩ : ∃ q : Nat, (q : Int) = turn k (m4 : Int) := ⟨(turn k (m4 : Int)).toNat, Int.toNat_of_nonneg htb.1⟩
   have hql : q < bits.length := by omega
   refine cd_skip ?_
   refine th_norm (hK2 _ _ ?_)
   refine cd_region fun K6 hK6 => ?_
   refine sq rfl (st_move hs5 (Ev.t 2 rfl) rfl rfl fun _ _ hs6 => ?_); clear hs5
   refine sq rfl (st_move hs6 (Ev.t 4 rfl) rfl rfl fun _ _ hs7 => ?_); clear hs6
   refine sq rfl (st_move hs7 (Ev.t 4 rfl) rfl rfl fun _ _ hs8 => ?_); clear hs7
   refine sq rfl (st_len hs8 (Ev.t 0 rfl) rfl rfl runUnderlying47 fun _ _ hs9 => ?_); clear hs8
   refine sq rfl (st_callv (vs := [.int .i64 k, .int .i64 (m4 : Int)]) hs9 (.func _) ⟨(Ev.t 2 rfl), (Ev.t 0 rfl), trivial⟩ rfl rfl call38 rfl (turn_v k (m4 : Int) (by omega) _) fun _ _ hs10 => ?_); clear hs9
   have hs11 := Sx.keepE [0, 1, 2, 3, 4, 5, 6, 7, 8] [(12, .int .i64 (q : Int)), (11, _), (10, _), (9, _), (8, _), (7, _), (4, _), (0, _), (1, _)] ⟨⟨_, rfl, (by rw [hq])⟩, ⟨_, rfl, rfl⟩, ⟨_, rfl, rfl⟩, ⟨_, rfl, rfl⟩, ⟨_, rfl, rfl⟩, ⟨_, rfl, rfl⟩, ⟨_, rfl, rfl⟩, ⟨_, rfl, rfl⟩, ⟨_, rfl, rfl⟩, trivial⟩ hs10; clear hs10
   obtain ⟨x7, hx7⟩ : ∃ x, bits[q]? = some x := ⟨_, List.getElem?_eq_getElem (by have := hI.len; omega)⟩
   obtain ⟨b8, o8, hA8, -, hc8⟩ := hI.el q x7 hx7
   refine sq rfl (st_indexM (o' := o8 + q * 1) hs11 (Ev.t 4 rfl) (Ev.t 0 rfl) rfl rfl hA8 runUnderlying47 sizeOf3 ⟨by omega, by have := hI.len; have := (List.getElem?_eq_some_iff.1 hx7).1; omega⟩ rfl fun _ _ hs12 => ?_); clear hs11
   refine sq rfl (st_load1 (o := o8 + q * 1) (off := 0) (v := .int .i64 x7) hs12 (Ev.t 0 rfl) rfl rfl isAgg3 (hs12.old hc8 (by simp)) rfl fun _ _ hs13 => ?_); clear hs12
   have hs14 := hs13.keep [0, 1, 2, 3, 4, 5, 6, 7, 9, 10] [_, _, _, _, _, _, _, _, _, _] rfl; clear hs13
   refine sq rfl (st_assign hs14 (Ev.t 0 rfl) rfl rfl fun _ _ hs15 => ?_); clear hs14
   refine hK6 _ _ ?_; clear hK6
   have hs16 := hs15.keep [0] [_] rfl; clear hs15
   refine cd_retv (vs := [.int .i64 x7]) hs16 hQ0 rfl ⟨.tmp 0 rfl, trivial⟩ ?_
   clear hs16 hQ0 hN0
   first | (simp [pack, pickN, hz]; done) | (have hne : ¬ bits.length = 0 := (by omega); simp only [pack, pickN, ← hl4, ← hq, Int.toNat_natCast]; simp_all)
end Go.Proofs.YtdbcedmofoakmaaDoor
