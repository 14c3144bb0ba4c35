/- Part 4 of a proof: Dl. Words and walks that a program printed for this claim stand here without what the claim does not use. -/
import Derived.Test.YtficdonjodadlaaDl0
import Derived.Test.YtficdonjodadlaaDl3
set_option linter.unusedSimpArgs false
set_option linter.unusedVariables false
section
set_option linter.unusedVariables false
set_option maxRecDepth 100000
namespace Go.Proofs.Ytficdonjodadlaa
open Go.Ev Go.Proofs
theorem ty0 : tab.ty 0 = .no := (rfl)
theorem fl0 : (tab.row 0).flat = false := (rfl)
theorem by0 : (tab.row 0).bytes = 0 := (rfl)
theorem ze0 : (tab.row 0).zero = .N := (rfl)
theorem sz0 : (tab.row 0).size = 1 := (rfl)
theorem ty1 : tab.ty 1 = .fn := (rfl)
theorem fl1 : (tab.row 1).flat = false := (rfl)
theorem by1 : (tab.row 1).bytes = 8 := (rfl)
theorem ze1 : (tab.row 1).zero = .N := (rfl)
theorem sz1 : (tab.row 1).size = 1 := (rfl)
theorem okT1 : tab.okT 1 = true := (rfl)
theorem okE1 : tab.okE 1 = true := (rfl)
theorem ty2 : tab.ty 2 = .int .i64 := (rfl)
theorem fl2 : (tab.row 2).flat = true := (rfl)
theorem by2 : (tab.row 2).bytes = 8 := (rfl)
theorem ze2 : (tab.row 2).zero = .I 0 := (rfl)
theorem sz2 : (tab.row 2).size = 1 := (rfl)
theorem okT2 : tab.okT 2 = true := (rfl)
theorem okE2 : tab.okE 2 = true := (rfl)
theorem ty3 : tab.ty 3 = .int .i64 := (rfl)
theorem fl3 : (tab.row 3).flat = true := (rfl)
theorem by3 : (tab.row 3).bytes = 8 := (rfl)
theorem ze3 : (tab.row 3).zero = .I 0 := (rfl)
theorem sz3 : (tab.row 3).size = 1 := (rfl)
theorem okT3 : tab.okT 3 = true := (rfl)
theorem okE3 : tab.okE 3 = true := (rfl)
theorem ty4 : tab.ty 4 = .bool := (rfl)
theorem fl4 : (tab.row 4).flat = true := (rfl)
theorem by4 : (tab.row 4).bytes = 1 := (rfl)
theorem ze4 : (tab.row 4).zero = .B false := (rfl)
theorem sz4 : (tab.row 4).size = 1 := (rfl)
theorem okT4 : tab.okT 4 = true := (rfl)
theorem okE4 : tab.okE 4 = true := (rfl)
theorem ty5 : tab.ty 5 = .int .u8 := (rfl)
theorem fl5 : (tab.row 5).flat = true := (rfl)
theorem by5 : (tab.row 5).bytes = 1 := (rfl)
theorem ze5 : (tab.row 5).zero = .I 0 := (rfl)
theorem sz5 : (tab.row 5).size = 1 := (rfl)
theorem okT5 : tab.okT 5 = true := (rfl)
theorem okE5 : tab.okE 5 = true := (rfl)
theorem ty6 : tab.ty 6 = .int .u8 := (rfl)
theorem fl6 : (tab.row 6).flat = true := (rfl)
theorem by6 : (tab.row 6).bytes = 1 := (rfl)
theorem ze6 : (tab.row 6).zero = .I 0 := (rfl)
theorem sz6 : (tab.row 6).size = 1 := (rfl)
theorem okT6 : tab.okT 6 = true := (rfl)
theorem okE6 : tab.okE 6 = true := (rfl)
theorem ty7 : tab.ty 7 = .agg [(2, 0), (3, 1), (4, 2), (6, 3)] := (rfl)
theorem fl7 : (tab.row 7).flat = true := (rfl)
theorem by7 : (tab.row 7).bytes = 24 := (rfl)
theorem ze7 : (tab.row 7).zero = .A [.I 0, .I 0, .B false, .I 0] := (rfl)
theorem sz7 : (tab.row 7).size = 4 := (rfl)
theorem okT7 : tab.okT 7 = true := (rfl)
theorem okE7 : tab.okE 7 = true := (rfl)
theorem ag7 : aggOf tab 7 = [(2, 0), (3, 1), (4, 2), (6, 3)] := (rfl)
theorem pa7_0 : tab.partAt 7 0 = some 2 := (rfl)
theorem pa7_1 : tab.partAt 7 1 = some 3 := (rfl)
theorem pa7_2 : tab.partAt 7 2 = some 4 := (rfl)
theorem pa7_3 : tab.partAt 7 3 = some 6 := (rfl)
theorem ty8 : tab.ty 8 = .agg [(2, 0), (3, 1), (4, 2), (6, 3)] := (rfl)
theorem fl8 : (tab.row 8).flat = true := (rfl)
theorem by8 : (tab.row 8).bytes = 24 := (rfl)
theorem ze8 : (tab.row 8).zero = .A [.I 0, .I 0, .B false, .I 0] := (rfl)
theorem sz8 : (tab.row 8).size = 4 := (rfl)
theorem okT8 : tab.okT 8 = true := (rfl)
theorem okE8 : tab.okE 8 = true := (rfl)
theorem ag8 : aggOf tab 8 = [(2, 0), (3, 1), (4, 2), (6, 3)] := (rfl)
theorem pa8_0 : tab.partAt 8 0 = some 2 := (rfl)
theorem pa8_1 : tab.partAt 8 1 = some 3 := (rfl)
theorem pa8_2 : tab.partAt 8 2 = some 4 := (rfl)
theorem pa8_3 : tab.partAt 8 3 = some 6 := (rfl)
theorem ty9 : tab.ty 9 = .str := (rfl)
theorem fl9 : (tab.row 9).flat = true := (rfl)
theorem by9 : (tab.row 9).bytes = 16 := (rfl)
theorem ze9 : (tab.row 9).zero = .S .empty := (rfl)
theorem sz9 : (tab.row 9).size = 1 := (rfl)
theorem okT9 : tab.okT 9 = true := (rfl)
theorem okE9 : tab.okE 9 = true := (rfl)
theorem ty10 : tab.ty 10 = .str := (rfl)
theorem fl10 : (tab.row 10).flat = true := (rfl)
theorem by10 : (tab.row 10).bytes = 16 := (rfl)
theorem ze10 : (tab.row 10).zero = .S .empty := (rfl)
theorem sz10 : (tab.row 10).size = 1 := (rfl)
theorem okT10 : tab.okT 10 = true := (rfl)
theorem okE10 : tab.okE 10 = true := (rfl)
theorem ty11 : tab.ty 11 = .str := (rfl)
theorem fl11 : (tab.row 11).flat = true := (rfl)
theorem by11 : (tab.row 11).bytes = 16 := (rfl)
theorem ze11 : (tab.row 11).zero = .S .empty := (rfl)
theorem sz11 : (tab.row 11).size = 1 := (rfl)
theorem okT11 : tab.okT 11 = true := (rfl)
theorem okE11 : tab.okE 11 = true := (rfl)
theorem ty12 : tab.ty 12 = .int .u64 := (rfl)
theorem fl12 : (tab.row 12).flat = true := (rfl)
theorem by12 : (tab.row 12).bytes = 8 := (rfl)
theorem ze12 : (tab.row 12).zero = .I 0 := (rfl)
theorem sz12 : (tab.row 12).size = 1 := (rfl)
theorem okT12 : tab.okT 12 = true := (rfl)
theorem okE12 : tab.okE 12 = true := (rfl)
theorem ty15 : tab.ty 15 = .ptr 103 := (rfl)
theorem fl15 : (tab.row 15).flat = false := (rfl)
theorem by15 : (tab.row 15).bytes = 8 := (rfl)
theorem ze15 : (tab.row 15).zero = .N := (rfl)
theorem sz15 : (tab.row 15).size = 1 := (rfl)
theorem okT15 : tab.okT 15 = true := (rfl)
theorem okE15 : tab.okE 15 = true := (rfl)
theorem ty16 : tab.ty 16 = .ptr 106 := (rfl)
theorem fl16 : (tab.row 16).flat = false := (rfl)
theorem by16 : (tab.row 16).bytes = 8 := (rfl)
theorem ze16 : (tab.row 16).zero = .N := (rfl)
theorem sz16 : (tab.row 16).size = 1 := (rfl)
theorem okT16 : tab.okT 16 = true := (rfl)
theorem okE16 : tab.okE 16 = true := (rfl)
theorem ty17 : tab.ty 17 = .ptr 116 := (rfl)
theorem fl17 : (tab.row 17).flat = false := (rfl)
theorem by17 : (tab.row 17).bytes = 8 := (rfl)
theorem ze17 : (tab.row 17).zero = .N := (rfl)
theorem sz17 : (tab.row 17).size = 1 := (rfl)
theorem okT17 : tab.okT 17 = true := (rfl)
theorem okE17 : tab.okE 17 = true := (rfl)
theorem ty21 : tab.ty 21 = .int .i32 := (rfl)
theorem fl21 : (tab.row 21).flat = true := (rfl)
theorem by21 : (tab.row 21).bytes = 4 := (rfl)
theorem ze21 : (tab.row 21).zero = .I 0 := (rfl)
theorem sz21 : (tab.row 21).size = 1 := (rfl)
theorem okT21 : tab.okT 21 = true := (rfl)
theorem okE21 : tab.okE 21 = true := (rfl)
theorem ty22 : tab.ty 22 = .slice 59 := (rfl)
theorem fl22 : (tab.row 22).flat = false := (rfl)
theorem by22 : (tab.row 22).bytes = 24 := (rfl)
theorem ze22 : (tab.row 22).zero = .N := (rfl)
theorem sz22 : (tab.row 22).size = 1 := (rfl)
theorem okT22 : tab.okT 22 = true := (rfl)
theorem okE22 : tab.okE 22 = true := (rfl)
theorem el22 : Go.Ev.elemOf tab 22 = 59 := (rfl)
theorem ty23 : tab.ty 23 = .slice 62 := (rfl)
theorem fl23 : (tab.row 23).flat = false := (rfl)
theorem by23 : (tab.row 23).bytes = 24 := (rfl)
theorem ze23 : (tab.row 23).zero = .N := (rfl)
theorem sz23 : (tab.row 23).size = 1 := (rfl)
theorem okT23 : tab.okT 23 = true := (rfl)
theorem okE23 : tab.okE 23 = true := (rfl)
theorem el23 : Go.Ev.elemOf tab 23 = 62 := (rfl)
theorem ty24 : tab.ty 24 = .agg [(9, 0), (22, 1), (23, 2)] := (rfl)
theorem fl24 : (tab.row 24).flat = false := (rfl)
theorem by24 : (tab.row 24).bytes = 64 := (rfl)
theorem ze24 : (tab.row 24).zero = .A [.S .empty, .N, .N] := (rfl)
theorem sz24 : (tab.row 24).size = 3 := (rfl)
theorem okT24 : tab.okT 24 = true := (rfl)
theorem okE24 : tab.okE 24 = true := (rfl)
theorem ag24 : aggOf tab 24 = [(9, 0), (22, 1), (23, 2)] := (rfl)
theorem pa24_0 : tab.partAt 24 0 = some 9 := (rfl)
theorem pa24_1 : tab.partAt 24 1 = some 22 := (rfl)
theorem pa24_2 : tab.partAt 24 2 = some 23 := (rfl)
theorem ty25 : tab.ty 25 = .agg [(9, 0), (22, 1), (23, 2)] := (rfl)
theorem fl25 : (tab.row 25).flat = false := (rfl)
theorem by25 : (tab.row 25).bytes = 64 := (rfl)
theorem ze25 : (tab.row 25).zero = .A [.S .empty, .N, .N] := (rfl)
theorem sz25 : (tab.row 25).size = 3 := (rfl)
theorem okT25 : tab.okT 25 = true := (rfl)
theorem okE25 : tab.okE 25 = true := (rfl)
theorem ag25 : aggOf tab 25 = [(9, 0), (22, 1), (23, 2)] := (rfl)
theorem pa25_0 : tab.partAt 25 0 = some 9 := (rfl)
theorem pa25_1 : tab.partAt 25 1 = some 22 := (rfl)
theorem pa25_2 : tab.partAt 25 2 = some 23 := (rfl)
theorem ty26 : tab.ty 26 = .slice 54 := (rfl)
theorem fl26 : (tab.row 26).flat = false := (rfl)
theorem by26 : (tab.row 26).bytes = 24 := (rfl)
theorem ze26 : (tab.row 26).zero = .N := (rfl)
theorem sz26 : (tab.row 26).size = 1 := (rfl)
theorem okT26 : tab.okT 26 = true := (rfl)
theorem okE26 : tab.okE 26 = true := (rfl)
theorem el26 : Go.Ev.elemOf tab 26 = 54 := (rfl)
theorem ty27 : tab.ty 27 = .slice 56 := (rfl)
theorem fl27 : (tab.row 27).flat = false := (rfl)
theorem by27 : (tab.row 27).bytes = 24 := (rfl)
theorem ze27 : (tab.row 27).zero = .N := (rfl)
theorem sz27 : (tab.row 27).size = 1 := (rfl)
theorem okT27 : tab.okT 27 = true := (rfl)
theorem okE27 : tab.okE 27 = true := (rfl)
theorem el27 : Go.Ev.elemOf tab 27 = 56 := (rfl)
theorem ty28 : tab.ty 28 = .agg [(26, 0), (27, 1)] := (rfl)
theorem fl28 : (tab.row 28).flat = false := (rfl)
theorem by28 : (tab.row 28).bytes = 48 := (rfl)
theorem ze28 : (tab.row 28).zero = .A [.N, .N] := (rfl)
theorem sz28 : (tab.row 28).size = 2 := (rfl)
theorem okT28 : tab.okT 28 = true := (rfl)
theorem okE28 : tab.okE 28 = true := (rfl)
theorem ag28 : aggOf tab 28 = [(26, 0), (27, 1)] := (rfl)
theorem pa28_0 : tab.partAt 28 0 = some 26 := (rfl)
theorem pa28_1 : tab.partAt 28 1 = some 27 := (rfl)
theorem ty29 : tab.ty 29 = .agg [(26, 0), (27, 1)] := (rfl)
theorem fl29 : (tab.row 29).flat = false := (rfl)
theorem by29 : (tab.row 29).bytes = 48 := (rfl)
theorem ze29 : (tab.row 29).zero = .A [.N, .N] := (rfl)
theorem sz29 : (tab.row 29).size = 2 := (rfl)
theorem okT29 : tab.okT 29 = true := (rfl)
theorem okE29 : tab.okE 29 = true := (rfl)
theorem ag29 : aggOf tab 29 = [(26, 0), (27, 1)] := (rfl)
theorem pa29_0 : tab.partAt 29 0 = some 26 := (rfl)
theorem pa29_1 : tab.partAt 29 1 = some 27 := (rfl)
theorem ty31 : tab.ty 31 = .fn := (rfl)
theorem fl31 : (tab.row 31).flat = false := (rfl)
theorem by31 : (tab.row 31).bytes = 8 := (rfl)
theorem ze31 : (tab.row 31).zero = .N := (rfl)
theorem sz31 : (tab.row 31).size = 1 := (rfl)
theorem okT31 : tab.okT 31 = true := (rfl)
theorem okE31 : tab.okE 31 = true := (rfl)
theorem ty32 : tab.ty 32 = .fn := (rfl)
theorem fl32 : (tab.row 32).flat = false := (rfl)
theorem by32 : (tab.row 32).bytes = 8 := (rfl)
theorem ze32 : (tab.row 32).zero = .N := (rfl)
theorem sz32 : (tab.row 32).size = 1 := (rfl)
theorem okT32 : tab.okT 32 = true := (rfl)
theorem okE32 : tab.okE 32 = true := (rfl)
theorem ty33 : tab.ty 33 = .fn := (rfl)
theorem fl33 : (tab.row 33).flat = false := (rfl)
theorem by33 : (tab.row 33).bytes = 8 := (rfl)
theorem ze33 : (tab.row 33).zero = .N := (rfl)
theorem sz33 : (tab.row 33).size = 1 := (rfl)
theorem okT33 : tab.okT 33 = true := (rfl)
theorem okE33 : tab.okE 33 = true := (rfl)
theorem ty34 : tab.ty 34 = .int .i64 := (rfl)
theorem fl34 : (tab.row 34).flat = true := (rfl)
theorem by34 : (tab.row 34).bytes = 8 := (rfl)
theorem ze34 : (tab.row 34).zero = .I 0 := (rfl)
theorem sz34 : (tab.row 34).size = 1 := (rfl)
theorem okT34 : tab.okT 34 = true := (rfl)
theorem okE34 : tab.okE 34 = true := (rfl)
theorem ty36 : tab.ty 36 = .fn := (rfl)
theorem fl36 : (tab.row 36).flat = false := (rfl)
theorem by36 : (tab.row 36).bytes = 8 := (rfl)
theorem ze36 : (tab.row 36).zero = .N := (rfl)
theorem sz36 : (tab.row 36).size = 1 := (rfl)
theorem okT36 : tab.okT 36 = true := (rfl)
theorem okE36 : tab.okE 36 = true := (rfl)
theorem ty37 : tab.ty 37 = .agg [(34, 0), (3, 1)] := (rfl)
theorem fl37 : (tab.row 37).flat = true := (rfl)
theorem by37 : (tab.row 37).bytes = 16 := (rfl)
theorem ze37 : (tab.row 37).zero = .A [.I 0, .I 0] := (rfl)
theorem sz37 : (tab.row 37).size = 2 := (rfl)
theorem okT37 : tab.okT 37 = true := (rfl)
theorem okE37 : tab.okE 37 = true := (rfl)
theorem ag37 : aggOf tab 37 = [(34, 0), (3, 1)] := (rfl)
theorem pa37_0 : tab.partAt 37 0 = some 34 := (rfl)
theorem pa37_1 : tab.partAt 37 1 = some 3 := (rfl)
theorem ty38 : tab.ty 38 = .agg [(34, 0), (3, 1)] := (rfl)
theorem fl38 : (tab.row 38).flat = true := (rfl)
theorem by38 : (tab.row 38).bytes = 16 := (rfl)
theorem ze38 : (tab.row 38).zero = .A [.I 0, .I 0] := (rfl)
theorem sz38 : (tab.row 38).size = 2 := (rfl)
theorem okT38 : tab.okT 38 = true := (rfl)
theorem okE38 : tab.okE 38 = true := (rfl)
theorem ag38 : aggOf tab 38 = [(34, 0), (3, 1)] := (rfl)
theorem pa38_0 : tab.partAt 38 0 = some 34 := (rfl)
theorem pa38_1 : tab.partAt 38 1 = some 3 := (rfl)
theorem ty39 : tab.ty 39 = .fn := (rfl)
theorem fl39 : (tab.row 39).flat = false := (rfl)
theorem by39 : (tab.row 39).bytes = 8 := (rfl)
theorem ze39 : (tab.row 39).zero = .N := (rfl)
theorem sz39 : (tab.row 39).size = 1 := (rfl)
theorem okT39 : tab.okT 39 = true := (rfl)
theorem okE39 : tab.okE 39 = true := (rfl)
theorem ty40 : tab.ty 40 = .fn := (rfl)
theorem fl40 : (tab.row 40).flat = false := (rfl)
theorem by40 : (tab.row 40).bytes = 8 := (rfl)
theorem ze40 : (tab.row 40).zero = .N := (rfl)
theorem sz40 : (tab.row 40).size = 1 := (rfl)
theorem okT40 : tab.okT 40 = true := (rfl)
theorem okE40 : tab.okE 40 = true := (rfl)
theorem ty41 : tab.ty 41 = .fn := (rfl)
theorem fl41 : (tab.row 41).flat = false := (rfl)
theorem by41 : (tab.row 41).bytes = 8 := (rfl)
theorem ze41 : (tab.row 41).zero = .N := (rfl)
theorem sz41 : (tab.row 41).size = 1 := (rfl)
theorem okT41 : tab.okT 41 = true := (rfl)
theorem okE41 : tab.okE 41 = true := (rfl)
theorem ty42 : tab.ty 42 = .fn := (rfl)
theorem fl42 : (tab.row 42).flat = false := (rfl)
theorem by42 : (tab.row 42).bytes = 8 := (rfl)
theorem ze42 : (tab.row 42).zero = .N := (rfl)
theorem sz42 : (tab.row 42).size = 1 := (rfl)
theorem okT42 : tab.okT 42 = true := (rfl)
theorem okE42 : tab.okE 42 = true := (rfl)
theorem ty43 : tab.ty 43 = .fn := (rfl)
theorem fl43 : (tab.row 43).flat = false := (rfl)
theorem by43 : (tab.row 43).bytes = 8 := (rfl)
theorem ze43 : (tab.row 43).zero = .N := (rfl)
theorem sz43 : (tab.row 43).size = 1 := (rfl)
theorem okT43 : tab.okT 43 = true := (rfl)
theorem okE43 : tab.okE 43 = true := (rfl)
theorem ty44 : tab.ty 44 = .slice 46 := (rfl)
theorem fl44 : (tab.row 44).flat = false := (rfl)
theorem by44 : (tab.row 44).bytes = 24 := (rfl)
theorem ze44 : (tab.row 44).zero = .N := (rfl)
theorem sz44 : (tab.row 44).size = 1 := (rfl)
theorem okT44 : tab.okT 44 = true := (rfl)
theorem okE44 : tab.okE 44 = true := (rfl)
theorem el44 : Go.Ev.elemOf tab 44 = 46 := (rfl)
theorem ty45 : tab.ty 45 = .fn := (rfl)
theorem fl45 : (tab.row 45).flat = false := (rfl)
theorem by45 : (tab.row 45).bytes = 8 := (rfl)
theorem ze45 : (tab.row 45).zero = .N := (rfl)
theorem sz45 : (tab.row 45).size = 1 := (rfl)
theorem okT45 : tab.okT 45 = true := (rfl)
theorem okE45 : tab.okE 45 = true := (rfl)
theorem ty46 : tab.ty 46 = .slice 3 := (rfl)
theorem fl46 : (tab.row 46).flat = false := (rfl)
theorem by46 : (tab.row 46).bytes = 24 := (rfl)
theorem ze46 : (tab.row 46).zero = .N := (rfl)
theorem sz46 : (tab.row 46).size = 1 := (rfl)
theorem okT46 : tab.okT 46 = true := (rfl)
theorem okE46 : tab.okE 46 = true := (rfl)
theorem el46 : Go.Ev.elemOf tab 46 = 3 := (rfl)
theorem ty47 : tab.ty 47 = .fn := (rfl)
theorem fl47 : (tab.row 47).flat = false := (rfl)
theorem by47 : (tab.row 47).bytes = 8 := (rfl)
theorem ze47 : (tab.row 47).zero = .N := (rfl)
theorem sz47 : (tab.row 47).size = 1 := (rfl)
theorem okT47 : tab.okT 47 = true := (rfl)
theorem okE47 : tab.okE 47 = true := (rfl)
theorem ty48 : tab.ty 48 = .fn := (rfl)
theorem fl48 : (tab.row 48).flat = false := (rfl)
theorem by48 : (tab.row 48).bytes = 8 := (rfl)
theorem ze48 : (tab.row 48).zero = .N := (rfl)
theorem sz48 : (tab.row 48).size = 1 := (rfl)
theorem okT48 : tab.okT 48 = true := (rfl)
theorem okE48 : tab.okE 48 = true := (rfl)
theorem ty49 : tab.ty 49 = .fn := (rfl)
theorem fl49 : (tab.row 49).flat = false := (rfl)
theorem by49 : (tab.row 49).bytes = 8 := (rfl)
theorem ze49 : (tab.row 49).zero = .N := (rfl)
theorem sz49 : (tab.row 49).size = 1 := (rfl)
theorem okT49 : tab.okT 49 = true := (rfl)
theorem okE49 : tab.okE 49 = true := (rfl)
theorem ty50 : tab.ty 50 = .fn := (rfl)
theorem fl50 : (tab.row 50).flat = false := (rfl)
theorem by50 : (tab.row 50).bytes = 8 := (rfl)
theorem ze50 : (tab.row 50).zero = .N := (rfl)
theorem sz50 : (tab.row 50).size = 1 := (rfl)
theorem okT50 : tab.okT 50 = true := (rfl)
theorem okE50 : tab.okE 50 = true := (rfl)
theorem ty51 : tab.ty 51 = .slice 4 := (rfl)
theorem fl51 : (tab.row 51).flat = false := (rfl)
theorem by51 : (tab.row 51).bytes = 24 := (rfl)
theorem ze51 : (tab.row 51).zero = .N := (rfl)
theorem sz51 : (tab.row 51).size = 1 := (rfl)
theorem okT51 : tab.okT 51 = true := (rfl)
theorem okE51 : tab.okE 51 = true := (rfl)
theorem el51 : Go.Ev.elemOf tab 51 = 4 := (rfl)
theorem ty52 : tab.ty 52 = .fn := (rfl)
theorem fl52 : (tab.row 52).flat = false := (rfl)
theorem by52 : (tab.row 52).bytes = 8 := (rfl)
theorem ze52 : (tab.row 52).zero = .N := (rfl)
theorem sz52 : (tab.row 52).size = 1 := (rfl)
theorem okT52 : tab.okT 52 = true := (rfl)
theorem okE52 : tab.okE 52 = true := (rfl)
theorem ty53 : tab.ty 53 = .agg [(3, 0), (3, 1)] := (rfl)
theorem fl53 : (tab.row 53).flat = true := (rfl)
theorem by53 : (tab.row 53).bytes = 16 := (rfl)
theorem ze53 : (tab.row 53).zero = .A [.I 0, .I 0] := (rfl)
theorem sz53 : (tab.row 53).size = 2 := (rfl)
theorem okT53 : tab.okT 53 = true := (rfl)
theorem okE53 : tab.okE 53 = true := (rfl)
theorem ag53 : aggOf tab 53 = [(3, 0), (3, 1)] := (rfl)
theorem pa53_0 : tab.partAt 53 0 = some 3 := (rfl)
theorem pa53_1 : tab.partAt 53 1 = some 3 := (rfl)
theorem ty54 : tab.ty 54 = .agg [(3, 0), (3, 1)] := (rfl)
theorem fl54 : (tab.row 54).flat = true := (rfl)
theorem by54 : (tab.row 54).bytes = 16 := (rfl)
theorem ze54 : (tab.row 54).zero = .A [.I 0, .I 0] := (rfl)
theorem sz54 : (tab.row 54).size = 2 := (rfl)
theorem okT54 : tab.okT 54 = true := (rfl)
theorem okE54 : tab.okE 54 = true := (rfl)
theorem ag54 : aggOf tab 54 = [(3, 0), (3, 1)] := (rfl)
theorem pa54_0 : tab.partAt 54 0 = some 3 := (rfl)
theorem pa54_1 : tab.partAt 54 1 = some 3 := (rfl)
theorem ty55 : tab.ty 55 = .agg [(3, 0), (46, 1), (46, 2), (4, 3)] := (rfl)
theorem fl55 : (tab.row 55).flat = false := (rfl)
theorem by55 : (tab.row 55).bytes = 64 := (rfl)
theorem ze55 : (tab.row 55).zero = .A [.I 0, .N, .N, .B false] := (rfl)
theorem sz55 : (tab.row 55).size = 4 := (rfl)
theorem okT55 : tab.okT 55 = true := (rfl)
theorem okE55 : tab.okE 55 = true := (rfl)
theorem ag55 : aggOf tab 55 = [(3, 0), (46, 1), (46, 2), (4, 3)] := (rfl)
theorem pa55_0 : tab.partAt 55 0 = some 3 := (rfl)
theorem pa55_1 : tab.partAt 55 1 = some 46 := (rfl)
theorem pa55_2 : tab.partAt 55 2 = some 46 := (rfl)
theorem pa55_3 : tab.partAt 55 3 = some 4 := (rfl)
theorem ty56 : tab.ty 56 = .agg [(3, 0), (46, 1), (46, 2), (4, 3)] := (rfl)
theorem fl56 : (tab.row 56).flat = false := (rfl)
theorem by56 : (tab.row 56).bytes = 64 := (rfl)
theorem ze56 : (tab.row 56).zero = .A [.I 0, .N, .N, .B false] := (rfl)
theorem sz56 : (tab.row 56).size = 4 := (rfl)
theorem okT56 : tab.okT 56 = true := (rfl)
theorem okE56 : tab.okE 56 = true := (rfl)
theorem ag56 : aggOf tab 56 = [(3, 0), (46, 1), (46, 2), (4, 3)] := (rfl)
theorem pa56_0 : tab.partAt 56 0 = some 3 := (rfl)
theorem pa56_1 : tab.partAt 56 1 = some 46 := (rfl)
theorem pa56_2 : tab.partAt 56 2 = some 46 := (rfl)
theorem pa56_3 : tab.partAt 56 3 = some 4 := (rfl)
theorem ty57 : tab.ty 57 = .fn := (rfl)
theorem fl57 : (tab.row 57).flat = false := (rfl)
theorem by57 : (tab.row 57).bytes = 8 := (rfl)
theorem ze57 : (tab.row 57).zero = .N := (rfl)
theorem sz57 : (tab.row 57).size = 1 := (rfl)
theorem okT57 : tab.okT 57 = true := (rfl)
theorem okE57 : tab.okE 57 = true := (rfl)
theorem ty58 : tab.ty 58 = .agg [(9, 0), (3, 1), (3, 2)] := (rfl)
theorem fl58 : (tab.row 58).flat = true := (rfl)
theorem by58 : (tab.row 58).bytes = 32 := (rfl)
theorem ze58 : (tab.row 58).zero = .A [.S .empty, .I 0, .I 0] := (rfl)
theorem sz58 : (tab.row 58).size = 3 := (rfl)
theorem okT58 : tab.okT 58 = true := (rfl)
theorem okE58 : tab.okE 58 = true := (rfl)
theorem ag58 : aggOf tab 58 = [(9, 0), (3, 1), (3, 2)] := (rfl)
theorem pa58_0 : tab.partAt 58 0 = some 9 := (rfl)
theorem pa58_1 : tab.partAt 58 1 = some 3 := (rfl)
theorem pa58_2 : tab.partAt 58 2 = some 3 := (rfl)
theorem ty59 : tab.ty 59 = .agg [(9, 0), (3, 1), (3, 2)] := (rfl)
theorem fl59 : (tab.row 59).flat = true := (rfl)
theorem by59 : (tab.row 59).bytes = 32 := (rfl)
theorem ze59 : (tab.row 59).zero = .A [.S .empty, .I 0, .I 0] := (rfl)
theorem sz59 : (tab.row 59).size = 3 := (rfl)
theorem okT59 : tab.okT 59 = true := (rfl)
theorem okE59 : tab.okE 59 = true := (rfl)
theorem ag59 : aggOf tab 59 = [(9, 0), (3, 1), (3, 2)] := (rfl)
theorem pa59_0 : tab.partAt 59 0 = some 9 := (rfl)
theorem pa59_1 : tab.partAt 59 1 = some 3 := (rfl)
theorem pa59_2 : tab.partAt 59 2 = some 3 := (rfl)
theorem ty60 : tab.ty 60 = .slice 64 := (rfl)
theorem fl60 : (tab.row 60).flat = false := (rfl)
theorem by60 : (tab.row 60).bytes = 24 := (rfl)
theorem ze60 : (tab.row 60).zero = .N := (rfl)
theorem sz60 : (tab.row 60).size = 1 := (rfl)
theorem okT60 : tab.okT 60 = true := (rfl)
theorem okE60 : tab.okE 60 = true := (rfl)
theorem el60 : Go.Ev.elemOf tab 60 = 64 := (rfl)
theorem ty61 : tab.ty 61 = .agg [(9, 0), (60, 1), (60, 2), (60, 3), (3, 4)] := (rfl)
theorem fl61 : (tab.row 61).flat = false := (rfl)
theorem by61 : (tab.row 61).bytes = 96 := (rfl)
theorem ze61 : (tab.row 61).zero = .A [.S .empty, .N, .N, .N, .I 0] := (rfl)
theorem sz61 : (tab.row 61).size = 5 := (rfl)
theorem okT61 : tab.okT 61 = true := (rfl)
theorem okE61 : tab.okE 61 = true := (rfl)
theorem ag61 : aggOf tab 61 = [(9, 0), (60, 1), (60, 2), (60, 3), (3, 4)] := (rfl)
theorem pa61_0 : tab.partAt 61 0 = some 9 := (rfl)
theorem pa61_1 : tab.partAt 61 1 = some 60 := (rfl)
theorem pa61_2 : tab.partAt 61 2 = some 60 := (rfl)
theorem pa61_3 : tab.partAt 61 3 = some 60 := (rfl)
theorem pa61_4 : tab.partAt 61 4 = some 3 := (rfl)
theorem ty62 : tab.ty 62 = .agg [(9, 0), (60, 1), (60, 2), (60, 3), (3, 4)] := (rfl)
theorem fl62 : (tab.row 62).flat = false := (rfl)
theorem by62 : (tab.row 62).bytes = 96 := (rfl)
theorem ze62 : (tab.row 62).zero = .A [.S .empty, .N, .N, .N, .I 0] := (rfl)
theorem sz62 : (tab.row 62).size = 5 := (rfl)
theorem okT62 : tab.okT 62 = true := (rfl)
theorem okE62 : tab.okE 62 = true := (rfl)
theorem ag62 : aggOf tab 62 = [(9, 0), (60, 1), (60, 2), (60, 3), (3, 4)] := (rfl)
theorem pa62_0 : tab.partAt 62 0 = some 9 := (rfl)
theorem pa62_1 : tab.partAt 62 1 = some 60 := (rfl)
theorem pa62_2 : tab.partAt 62 2 = some 60 := (rfl)
theorem pa62_3 : tab.partAt 62 3 = some 60 := (rfl)
theorem pa62_4 : tab.partAt 62 4 = some 3 := (rfl)
theorem ty63 : tab.ty 63 = .agg [(3, 0), (3, 1)] := (rfl)
theorem fl63 : (tab.row 63).flat = true := (rfl)
theorem by63 : (tab.row 63).bytes = 16 := (rfl)
theorem ze63 : (tab.row 63).zero = .A [.I 0, .I 0] := (rfl)
theorem sz63 : (tab.row 63).size = 2 := (rfl)
theorem okT63 : tab.okT 63 = true := (rfl)
theorem okE63 : tab.okE 63 = true := (rfl)
theorem ag63 : aggOf tab 63 = [(3, 0), (3, 1)] := (rfl)
theorem pa63_0 : tab.partAt 63 0 = some 3 := (rfl)
theorem pa63_1 : tab.partAt 63 1 = some 3 := (rfl)
theorem ty64 : tab.ty 64 = .agg [(3, 0), (3, 1)] := (rfl)
theorem fl64 : (tab.row 64).flat = true := (rfl)
theorem by64 : (tab.row 64).bytes = 16 := (rfl)
theorem ze64 : (tab.row 64).zero = .A [.I 0, .I 0] := (rfl)
theorem sz64 : (tab.row 64).size = 2 := (rfl)
theorem okT64 : tab.okT 64 = true := (rfl)
theorem okE64 : tab.okE 64 = true := (rfl)
theorem ag64 : aggOf tab 64 = [(3, 0), (3, 1)] := (rfl)
theorem pa64_0 : tab.partAt 64 0 = some 3 := (rfl)
theorem pa64_1 : tab.partAt 64 1 = some 3 := (rfl)
theorem ty65 : tab.ty 65 = .fn := (rfl)
theorem fl65 : (tab.row 65).flat = false := (rfl)
theorem by65 : (tab.row 65).bytes = 8 := (rfl)
theorem ze65 : (tab.row 65).zero = .N := (rfl)
theorem sz65 : (tab.row 65).size = 1 := (rfl)
theorem okT65 : tab.okT 65 = true := (rfl)
theorem okE65 : tab.okE 65 = true := (rfl)
theorem ty66 : tab.ty 66 = .fn := (rfl)
theorem fl66 : (tab.row 66).flat = false := (rfl)
theorem by66 : (tab.row 66).bytes = 8 := (rfl)
theorem ze66 : (tab.row 66).zero = .N := (rfl)
theorem sz66 : (tab.row 66).size = 1 := (rfl)
theorem okT66 : tab.okT 66 = true := (rfl)
theorem okE66 : tab.okE 66 = true := (rfl)
theorem ty67 : tab.ty 67 = .fn := (rfl)
theorem fl67 : (tab.row 67).flat = false := (rfl)
theorem by67 : (tab.row 67).bytes = 8 := (rfl)
theorem ze67 : (tab.row 67).zero = .N := (rfl)
theorem sz67 : (tab.row 67).size = 1 := (rfl)
theorem okT67 : tab.okT 67 = true := (rfl)
theorem okE67 : tab.okE 67 = true := (rfl)
theorem ty68 : tab.ty 68 = .fn := (rfl)
theorem fl68 : (tab.row 68).flat = false := (rfl)
theorem by68 : (tab.row 68).bytes = 8 := (rfl)
theorem ze68 : (tab.row 68).zero = .N := (rfl)
theorem sz68 : (tab.row 68).size = 1 := (rfl)
theorem okT68 : tab.okT 68 = true := (rfl)
theorem okE68 : tab.okE 68 = true := (rfl)
theorem ty69 : tab.ty 69 = .fn := (rfl)
theorem fl69 : (tab.row 69).flat = false := (rfl)
theorem by69 : (tab.row 69).bytes = 8 := (rfl)
theorem ze69 : (tab.row 69).zero = .N := (rfl)
theorem sz69 : (tab.row 69).size = 1 := (rfl)
theorem okT69 : tab.okT 69 = true := (rfl)
theorem okE69 : tab.okE 69 = true := (rfl)
theorem ty70 : tab.ty 70 = .fn := (rfl)
theorem fl70 : (tab.row 70).flat = false := (rfl)
theorem by70 : (tab.row 70).bytes = 8 := (rfl)
theorem ze70 : (tab.row 70).zero = .N := (rfl)
theorem sz70 : (tab.row 70).size = 1 := (rfl)
theorem okT70 : tab.okT 70 = true := (rfl)
theorem okE70 : tab.okE 70 = true := (rfl)
theorem ty71 : tab.ty 71 = .fn := (rfl)
theorem fl71 : (tab.row 71).flat = false := (rfl)
theorem by71 : (tab.row 71).bytes = 8 := (rfl)
theorem ze71 : (tab.row 71).zero = .N := (rfl)
theorem sz71 : (tab.row 71).size = 1 := (rfl)
theorem okT71 : tab.okT 71 = true := (rfl)
theorem okE71 : tab.okE 71 = true := (rfl)
theorem ty72 : tab.ty 72 = .fn := (rfl)
theorem fl72 : (tab.row 72).flat = false := (rfl)
theorem by72 : (tab.row 72).bytes = 8 := (rfl)
theorem ze72 : (tab.row 72).zero = .N := (rfl)
theorem sz72 : (tab.row 72).size = 1 := (rfl)
theorem okT72 : tab.okT 72 = true := (rfl)
theorem okE72 : tab.okE 72 = true := (rfl)
theorem ty73 : tab.ty 73 = .fn := (rfl)
theorem fl73 : (tab.row 73).flat = false := (rfl)
theorem by73 : (tab.row 73).bytes = 8 := (rfl)
theorem ze73 : (tab.row 73).zero = .N := (rfl)
theorem sz73 : (tab.row 73).size = 1 := (rfl)
theorem okT73 : tab.okT 73 = true := (rfl)
theorem okE73 : tab.okE 73 = true := (rfl)
theorem ty74 : tab.ty 74 = .fn := (rfl)
theorem fl74 : (tab.row 74).flat = false := (rfl)
theorem by74 : (tab.row 74).bytes = 8 := (rfl)
theorem ze74 : (tab.row 74).zero = .N := (rfl)
theorem sz74 : (tab.row 74).size = 1 := (rfl)
theorem okT74 : tab.okT 74 = true := (rfl)
theorem okE74 : tab.okE 74 = true := (rfl)
theorem ty75 : tab.ty 75 = .fn := (rfl)
theorem fl75 : (tab.row 75).flat = false := (rfl)
theorem by75 : (tab.row 75).bytes = 8 := (rfl)
theorem ze75 : (tab.row 75).zero = .N := (rfl)
theorem sz75 : (tab.row 75).size = 1 := (rfl)
theorem okT75 : tab.okT 75 = true := (rfl)
theorem okE75 : tab.okE 75 = true := (rfl)
theorem ty76 : tab.ty 76 = .fn := (rfl)
theorem fl76 : (tab.row 76).flat = false := (rfl)
theorem by76 : (tab.row 76).bytes = 8 := (rfl)
theorem ze76 : (tab.row 76).zero = .N := (rfl)
theorem sz76 : (tab.row 76).size = 1 := (rfl)
theorem okT76 : tab.okT 76 = true := (rfl)
theorem okE76 : tab.okE 76 = true := (rfl)
theorem ty77 : tab.ty 77 = .fn := (rfl)
theorem fl77 : (tab.row 77).flat = false := (rfl)
theorem by77 : (tab.row 77).bytes = 8 := (rfl)
theorem ze77 : (tab.row 77).zero = .N := (rfl)
theorem sz77 : (tab.row 77).size = 1 := (rfl)
theorem okT77 : tab.okT 77 = true := (rfl)
theorem okE77 : tab.okE 77 = true := (rfl)
theorem ty78 : tab.ty 78 = .fn := (rfl)
theorem fl78 : (tab.row 78).flat = false := (rfl)
theorem by78 : (tab.row 78).bytes = 8 := (rfl)
theorem ze78 : (tab.row 78).zero = .N := (rfl)
theorem sz78 : (tab.row 78).size = 1 := (rfl)
theorem okT78 : tab.okT 78 = true := (rfl)
theorem okE78 : tab.okE 78 = true := (rfl)
theorem ty79 : tab.ty 79 = .fn := (rfl)
theorem fl79 : (tab.row 79).flat = false := (rfl)
theorem by79 : (tab.row 79).bytes = 8 := (rfl)
theorem ze79 : (tab.row 79).zero = .N := (rfl)
theorem sz79 : (tab.row 79).size = 1 := (rfl)
theorem okT79 : tab.okT 79 = true := (rfl)
theorem okE79 : tab.okE 79 = true := (rfl)
theorem ty80 : tab.ty 80 = .fn := (rfl)
theorem fl80 : (tab.row 80).flat = false := (rfl)
theorem by80 : (tab.row 80).bytes = 8 := (rfl)
theorem ze80 : (tab.row 80).zero = .N := (rfl)
theorem sz80 : (tab.row 80).size = 1 := (rfl)
theorem okT80 : tab.okT 80 = true := (rfl)
theorem okE80 : tab.okE 80 = true := (rfl)
theorem ty81 : tab.ty 81 = .fn := (rfl)
theorem fl81 : (tab.row 81).flat = false := (rfl)
theorem by81 : (tab.row 81).bytes = 8 := (rfl)
theorem ze81 : (tab.row 81).zero = .N := (rfl)
theorem sz81 : (tab.row 81).size = 1 := (rfl)
theorem okT81 : tab.okT 81 = true := (rfl)
theorem okE81 : tab.okE 81 = true := (rfl)
theorem ty82 : tab.ty 82 = .slice 9 := (rfl)
theorem fl82 : (tab.row 82).flat = false := (rfl)
theorem by82 : (tab.row 82).bytes = 24 := (rfl)
theorem ze82 : (tab.row 82).zero = .N := (rfl)
theorem sz82 : (tab.row 82).size = 1 := (rfl)
theorem okT82 : tab.okT 82 = true := (rfl)
theorem okE82 : tab.okE 82 = true := (rfl)
theorem el82 : Go.Ev.elemOf tab 82 = 9 := (rfl)
theorem ty83 : tab.ty 83 = .fn := (rfl)
theorem fl83 : (tab.row 83).flat = false := (rfl)
theorem by83 : (tab.row 83).bytes = 8 := (rfl)
theorem ze83 : (tab.row 83).zero = .N := (rfl)
theorem sz83 : (tab.row 83).size = 1 := (rfl)
theorem okT83 : tab.okT 83 = true := (rfl)
theorem okE83 : tab.okE 83 = true := (rfl)
theorem ty84 : tab.ty 84 = .fn := (rfl)
theorem fl84 : (tab.row 84).flat = false := (rfl)
theorem by84 : (tab.row 84).bytes = 8 := (rfl)
theorem ze84 : (tab.row 84).zero = .N := (rfl)
theorem sz84 : (tab.row 84).size = 1 := (rfl)
theorem okT84 : tab.okT 84 = true := (rfl)
theorem okE84 : tab.okE 84 = true := (rfl)
theorem ty85 : tab.ty 85 = .fn := (rfl)
theorem fl85 : (tab.row 85).flat = false := (rfl)
theorem by85 : (tab.row 85).bytes = 8 := (rfl)
theorem ze85 : (tab.row 85).zero = .N := (rfl)
theorem sz85 : (tab.row 85).size = 1 := (rfl)
theorem okT85 : tab.okT 85 = true := (rfl)
theorem okE85 : tab.okE 85 = true := (rfl)
theorem ty86 : tab.ty 86 = .slice 60 := (rfl)
theorem fl86 : (tab.row 86).flat = false := (rfl)
theorem by86 : (tab.row 86).bytes = 24 := (rfl)
theorem ze86 : (tab.row 86).zero = .N := (rfl)
theorem sz86 : (tab.row 86).size = 1 := (rfl)
theorem okT86 : tab.okT 86 = true := (rfl)
theorem okE86 : tab.okE 86 = true := (rfl)
theorem el86 : Go.Ev.elemOf tab 86 = 60 := (rfl)
theorem ty87 : tab.ty 87 = .fn := (rfl)
theorem fl87 : (tab.row 87).flat = false := (rfl)
theorem by87 : (tab.row 87).bytes = 8 := (rfl)
theorem ze87 : (tab.row 87).zero = .N := (rfl)
theorem sz87 : (tab.row 87).size = 1 := (rfl)
theorem okT87 : tab.okT 87 = true := (rfl)
theorem okE87 : tab.okE 87 = true := (rfl)
theorem ty88 : tab.ty 88 = .fn := (rfl)
theorem fl88 : (tab.row 88).flat = false := (rfl)
theorem by88 : (tab.row 88).bytes = 8 := (rfl)
theorem ze88 : (tab.row 88).zero = .N := (rfl)
theorem sz88 : (tab.row 88).size = 1 := (rfl)
theorem okT88 : tab.okT 88 = true := (rfl)
theorem okE88 : tab.okE 88 = true := (rfl)
theorem ty89 : tab.ty 89 = .fn := (rfl)
theorem fl89 : (tab.row 89).flat = false := (rfl)
theorem by89 : (tab.row 89).bytes = 8 := (rfl)
theorem ze89 : (tab.row 89).zero = .N := (rfl)
theorem sz89 : (tab.row 89).size = 1 := (rfl)
theorem okT89 : tab.okT 89 = true := (rfl)
theorem okE89 : tab.okE 89 = true := (rfl)
theorem ty90 : tab.ty 90 = .fn := (rfl)
theorem fl90 : (tab.row 90).flat = false := (rfl)
theorem by90 : (tab.row 90).bytes = 8 := (rfl)
theorem ze90 : (tab.row 90).zero = .N := (rfl)
theorem sz90 : (tab.row 90).size = 1 := (rfl)
theorem okT90 : tab.okT 90 = true := (rfl)
theorem okE90 : tab.okE 90 = true := (rfl)
theorem ty91 : tab.ty 91 = .fn := (rfl)
theorem fl91 : (tab.row 91).flat = false := (rfl)
theorem by91 : (tab.row 91).bytes = 8 := (rfl)
theorem ze91 : (tab.row 91).zero = .N := (rfl)
theorem sz91 : (tab.row 91).size = 1 := (rfl)
theorem okT91 : tab.okT 91 = true := (rfl)
theorem okE91 : tab.okE 91 = true := (rfl)
theorem ty92 : tab.ty 92 = .fn := (rfl)
theorem fl92 : (tab.row 92).flat = false := (rfl)
theorem by92 : (tab.row 92).bytes = 8 := (rfl)
theorem ze92 : (tab.row 92).zero = .N := (rfl)
theorem sz92 : (tab.row 92).size = 1 := (rfl)
theorem okT92 : tab.okT 92 = true := (rfl)
theorem okE92 : tab.okE 92 = true := (rfl)
theorem ty93 : tab.ty 93 = .fn := (rfl)
theorem fl93 : (tab.row 93).flat = false := (rfl)
theorem by93 : (tab.row 93).bytes = 8 := (rfl)
theorem ze93 : (tab.row 93).zero = .N := (rfl)
theorem sz93 : (tab.row 93).size = 1 := (rfl)
theorem okT93 : tab.okT 93 = true := (rfl)
theorem okE93 : tab.okE 93 = true := (rfl)
theorem ty94 : tab.ty 94 = .fn := (rfl)
theorem fl94 : (tab.row 94).flat = false := (rfl)
theorem by94 : (tab.row 94).bytes = 8 := (rfl)
theorem ze94 : (tab.row 94).zero = .N := (rfl)
theorem sz94 : (tab.row 94).size = 1 := (rfl)
theorem okT94 : tab.okT 94 = true := (rfl)
theorem okE94 : tab.okE 94 = true := (rfl)
theorem ty95 : tab.ty 95 = .fn := (rfl)
theorem fl95 : (tab.row 95).flat = false := (rfl)
theorem by95 : (tab.row 95).bytes = 8 := (rfl)
theorem ze95 : (tab.row 95).zero = .N := (rfl)
theorem sz95 : (tab.row 95).size = 1 := (rfl)
theorem okT95 : tab.okT 95 = true := (rfl)
theorem okE95 : tab.okE 95 = true := (rfl)
theorem ty96 : tab.ty 96 = .fn := (rfl)
theorem fl96 : (tab.row 96).flat = false := (rfl)
theorem by96 : (tab.row 96).bytes = 8 := (rfl)
theorem ze96 : (tab.row 96).zero = .N := (rfl)
theorem sz96 : (tab.row 96).size = 1 := (rfl)
theorem okT96 : tab.okT 96 = true := (rfl)
theorem okE96 : tab.okE 96 = true := (rfl)
theorem ty97 : tab.ty 97 = .fn := (rfl)
theorem fl97 : (tab.row 97).flat = false := (rfl)
theorem by97 : (tab.row 97).bytes = 8 := (rfl)
theorem ze97 : (tab.row 97).zero = .N := (rfl)
theorem sz97 : (tab.row 97).size = 1 := (rfl)
theorem okT97 : tab.okT 97 = true := (rfl)
theorem okE97 : tab.okE 97 = true := (rfl)
theorem ty98 : tab.ty 98 = .fn := (rfl)
theorem fl98 : (tab.row 98).flat = false := (rfl)
theorem by98 : (tab.row 98).bytes = 8 := (rfl)
theorem ze98 : (tab.row 98).zero = .N := (rfl)
theorem sz98 : (tab.row 98).size = 1 := (rfl)
theorem okT98 : tab.okT 98 = true := (rfl)
theorem okE98 : tab.okE 98 = true := (rfl)
theorem ty99 : tab.ty 99 = .fn := (rfl)
theorem fl99 : (tab.row 99).flat = false := (rfl)
theorem by99 : (tab.row 99).bytes = 8 := (rfl)
theorem ze99 : (tab.row 99).zero = .N := (rfl)
theorem sz99 : (tab.row 99).size = 1 := (rfl)
theorem okT99 : tab.okT 99 = true := (rfl)
theorem okE99 : tab.okE 99 = true := (rfl)
theorem ty100 : tab.ty 100 = .fn := (rfl)
theorem fl100 : (tab.row 100).flat = false := (rfl)
theorem by100 : (tab.row 100).bytes = 8 := (rfl)
theorem ze100 : (tab.row 100).zero = .N := (rfl)
theorem sz100 : (tab.row 100).size = 1 := (rfl)
theorem okT100 : tab.okT 100 = true := (rfl)
theorem okE100 : tab.okE 100 = true := (rfl)
theorem ty101 : tab.ty 101 = .fn := (rfl)
theorem fl101 : (tab.row 101).flat = false := (rfl)
theorem by101 : (tab.row 101).bytes = 8 := (rfl)
theorem ze101 : (tab.row 101).zero = .N := (rfl)
theorem sz101 : (tab.row 101).size = 1 := (rfl)
theorem okT101 : tab.okT 101 = true := (rfl)
theorem okE101 : tab.okE 101 = true := (rfl)
theorem ty107 : tab.ty 107 = .fn := (rfl)
theorem fl107 : (tab.row 107).flat = false := (rfl)
theorem by107 : (tab.row 107).bytes = 8 := (rfl)
theorem ze107 : (tab.row 107).zero = .N := (rfl)
theorem sz107 : (tab.row 107).size = 1 := (rfl)
theorem okT107 : tab.okT 107 = true := (rfl)
theorem okE107 : tab.okE 107 = true := (rfl)
theorem ty108 : tab.ty 108 = .int .u32 := (rfl)
theorem fl108 : (tab.row 108).flat = true := (rfl)
theorem by108 : (tab.row 108).bytes = 4 := (rfl)
theorem ze108 : (tab.row 108).zero = .I 0 := (rfl)
theorem sz108 : (tab.row 108).size = 1 := (rfl)
theorem okT108 : tab.okT 108 = true := (rfl)
theorem okE108 : tab.okE 108 = true := (rfl)
theorem ty109 : tab.ty 109 = .int .u8 := (rfl)
theorem fl109 : (tab.row 109).flat = true := (rfl)
theorem by109 : (tab.row 109).bytes = 1 := (rfl)
theorem ze109 : (tab.row 109).zero = .I 0 := (rfl)
theorem sz109 : (tab.row 109).size = 1 := (rfl)
theorem okT109 : tab.okT 109 = true := (rfl)
theorem okE109 : tab.okE 109 = true := (rfl)
theorem ty110 : tab.ty 110 = .int .u8 := (rfl)
theorem fl110 : (tab.row 110).flat = true := (rfl)
theorem by110 : (tab.row 110).bytes = 1 := (rfl)
theorem ze110 : (tab.row 110).zero = .I 0 := (rfl)
theorem sz110 : (tab.row 110).size = 1 := (rfl)
theorem okT110 : tab.okT 110 = true := (rfl)
theorem okE110 : tab.okE 110 = true := (rfl)
theorem ty111 : tab.ty 111 = .fn := (rfl)
theorem fl111 : (tab.row 111).flat = false := (rfl)
theorem by111 : (tab.row 111).bytes = 8 := (rfl)
theorem ze111 : (tab.row 111).zero = .N := (rfl)
theorem sz111 : (tab.row 111).size = 1 := (rfl)
theorem okT111 : tab.okT 111 = true := (rfl)
theorem okE111 : tab.okE 111 = true := (rfl)
theorem ty112 : tab.ty 112 = .ptr 5 := (rfl)
theorem fl112 : (tab.row 112).flat = false := (rfl)
theorem by112 : (tab.row 112).bytes = 8 := (rfl)
theorem ze112 : (tab.row 112).zero = .N := (rfl)
theorem sz112 : (tab.row 112).size = 1 := (rfl)
theorem okT112 : tab.okT 112 = true := (rfl)
theorem okE112 : tab.okE 112 = true := (rfl)
theorem ty113 : tab.ty 113 = .int .i32 := (rfl)
theorem fl113 : (tab.row 113).flat = true := (rfl)
theorem by113 : (tab.row 113).bytes = 4 := (rfl)
theorem ze113 : (tab.row 113).zero = .I 0 := (rfl)
theorem sz113 : (tab.row 113).size = 1 := (rfl)
theorem okT113 : tab.okT 113 = true := (rfl)
theorem okE113 : tab.okE 113 = true := (rfl)
theorem ty114 : tab.ty 114 = .int .i32 := (rfl)
theorem fl114 : (tab.row 114).flat = true := (rfl)
theorem by114 : (tab.row 114).bytes = 4 := (rfl)
theorem ze114 : (tab.row 114).zero = .I 0 := (rfl)
theorem sz114 : (tab.row 114).size = 1 := (rfl)
theorem okT114 : tab.okT 114 = true := (rfl)
theorem okE114 : tab.okE 114 = true := (rfl)
theorem hi3 : fx3.hints = [(2, ⟨0, []⟩), (3, ⟨1, []⟩), (5, ⟨2, []⟩), (7, ⟨3, []⟩), (9, ⟨4, []⟩)] := (rfl)
theorem re3 : fx3.res = [(.tmp 4, 4)] := (rfl)
theorem nk3 : tab.nk 3 = 5 := (rfl)
theorem hi4 : fx4.hints = [(2, ⟨0, []⟩), (3, ⟨1, []⟩), (5, ⟨2, []⟩)] := (rfl)
theorem re4 : fx4.res = [(.tmp 4, 4)] := (rfl)
theorem nk4 : tab.nk 4 = 3 := (rfl)
theorem hi5 : fx5.hints = [(3, ⟨0, []⟩), (4, ⟨1, []⟩), (7, ⟨2, []⟩), (9, ⟨3, []⟩), (11, ⟨4, []⟩)] := (rfl)
theorem re5 : fx5.res = [(.tmp 6, 4)] := (rfl)
theorem nk5 : tab.nk 5 = 5 := (rfl)
theorem co5 : fx5.code = Try.f5.body.getD .skip := (rfl)
theorem hi6 : fx6.hints = [(2, ⟨0, []⟩)] := (rfl)
theorem re6 : fx6.res = [(.tmp 4, 4)] := (rfl)
theorem nk6 : tab.nk 6 = 1 := (rfl)
theorem cl6_0 : (fx6.clr.lookup 0).getD ([], []) = ([6, 21, 22, 23, 24, 25, 26, 27, 28, 29, 30, 31, 32, 33, 34, 35, 36, 37, 38, 39, 40, 41, 42, 43, 44, 45, 46, 47, 48, 49, 50, 51, 52], []) := (rfl)
theorem cl6_2 : (fx6.clr.lookup 2).getD ([], []) = ([28, 29, 30, 31, 32, 33, 34, 35, 36, 37, 38, 39, 40, 41, 42, 43, 44, 45, 46, 47, 48, 49, 50, 51, 52], []) := (rfl)
theorem hi7 : fx7.hints = [(2, ⟨0, []⟩), (3, ⟨1, []⟩), (5, ⟨2, []⟩)] := (rfl)
theorem re7 : fx7.res = [(.tmp 4, 4)] := (rfl)
theorem nk7 : tab.nk 7 = 3 := (rfl)
theorem cl7_0 : (fx7.clr.lookup 0).getD ([], []) = ([8, 9, 10, 11, 31, 32, 33, 34, 35, 36, 37, 38, 39, 40, 41, 42, 43, 44, 45, 46, 47, 48, 49, 50, 51, 52, 53, 54, 55, 56, 57, 58, 59, 60, 61, 62, 63, 64, 65, 66, 67, 68, 69, 70, 71, 72, 73, 74, 75, 76, 77, 78, 79], []) := (rfl)
theorem cl7_2 : (fx7.clr.lookup 2).getD ([], []) = ([9, 10, 11, 48, 49, 50, 51, 52, 53, 54, 55, 56, 57, 58, 59, 60, 61, 62, 63, 64, 65, 66, 67, 68, 69, 70, 71, 72, 73, 74, 75, 76, 77, 78, 79], []) := (rfl)
theorem hi8 : fx8.hints = [(3, ⟨0, []⟩), (4, ⟨1, []⟩), (7, ⟨2, []⟩), (9, ⟨4, []⟩), (13, ⟨6, []⟩), (47, ⟨3, []⟩), (80, ⟨5, []⟩)] := (rfl)
theorem re8 : fx8.res = [(.tmp 6, 4)] := (rfl)
theorem nk8 : tab.nk 8 = 7 := (rfl)
theorem cl8_0 : (fx8.clr.lookup 0).getD ([], []) = ([11, 12, 48, 49, 50, 51, 52, 53, 54, 55, 56, 57, 58, 59, 60, 61, 62, 63, 64, 65, 66, 67, 68, 69, 70, 71, 72, 73, 74, 75, 76], []) := (rfl)
theorem cl8_2 : (fx8.clr.lookup 2).getD ([], []) = ([65, 66, 67, 68, 69, 70, 71, 72, 73, 74, 75, 76], []) := (rfl)
theorem cl8_4 : (fx8.clr.lookup 4).getD ([], []) = ([81, 82, 83, 84, 85, 86, 87, 88, 89, 90, 91, 92, 93, 94, 95, 96, 97], []) := (rfl)
theorem cl8_6 : (fx8.clr.lookup 6).getD ([], []) = ([16, 17, 98, 99, 100, 101, 102, 103, 104, 105, 106, 107, 108, 109, 110, 111, 112, 113, 114, 115, 116, 117, 118, 119, 120, 121, 122, 123, 124, 125, 126, 127, 128, 129, 130, 131, 132, 133, 134, 135, 136, 137, 138, 139, 140, 141, 142, 143, 144, 145, 146, 147, 148, 149, 150, 151, 152, 153, 154, 155, 156, 157, 158, 159, 160, 161, 162, 163, 164, 165, 166], []) := (rfl)
theorem cl8_8 : (fx8.clr.lookup 8).getD ([], []) = ([110, 111, 112, 113, 114, 115, 116, 117, 118, 119, 120, 121, 122, 123, 124, 125, 126, 127, 128, 129, 130, 131, 132, 133, 134, 135, 136, 137, 138, 139, 140, 141, 142, 143, 144], []) := (rfl)
theorem cl8_10 : (fx8.clr.lookup 10).getD ([], []) = ([145, 146, 147, 148, 149, 150, 151, 152, 153, 154, 155, 156, 157, 158, 159, 160, 161, 162, 163, 164, 165, 166], []) := (rfl)
theorem cl8_12 : (fx8.clr.lookup 12).getD ([], []) = ([167, 168, 169, 170, 171, 172, 173, 174, 175, 176, 177, 178, 179, 180], []) := (rfl)
theorem hi9 : fx9.hints = [(1, ⟨0, []⟩)] := (rfl)
theorem re9 : fx9.res = [(.tmp 2, 4)] := (rfl)
theorem nk9 : tab.nk 9 = 1 := (rfl)
theorem cl9_0 : (fx9.clr.lookup 0).getD ([], []) = ([4, 14, 15, 16, 17, 18, 19, 20, 21, 22, 23, 24, 25, 26, 27, 28, 29, 30, 31, 32, 33, 34, 35, 36, 37, 38, 39, 40, 41, 42, 43, 44, 45, 46, 47, 48, 49, 50, 51, 52, 53, 54, 55], []) := (rfl)
theorem cl9_2 : (fx9.clr.lookup 2).getD ([], []) = ([29, 30, 31, 32, 33, 34, 35, 36, 37, 38, 39, 40, 41, 42, 43, 44, 45, 46, 47, 48, 49, 50, 51, 52, 53, 54, 55], []) := (rfl)
theorem hi10 : fx10.hints = [(1, ⟨0, []⟩), (2, ⟨1, []⟩), (6, ⟨2, []⟩)] := (rfl)
theorem re10 : fx10.res = [(.cell 2 25, 25), (.tmp 3, 4)] := (rfl)
theorem nk10 : tab.nk 10 = 3 := (rfl)
theorem cl10_0 : (fx10.clr.lookup 0).getD ([], []) = ([24, 25, 26, 27, 28, 29, 30, 31, 32, 33, 34, 35, 36, 37, 38, 39], []) := (rfl)
theorem cl10_2 : (fx10.clr.lookup 2).getD ([], []) = ([6, 40, 41, 42, 43, 44, 45, 46, 47, 48, 49, 50, 51, 52, 53, 54, 55, 56, 57, 58, 59, 60, 61, 62, 63, 64, 65, 66, 67, 68, 69, 70, 71, 72, 73, 74], [2]) := (rfl)
theorem co10 : fx10.code = Try.f10.body.getD .skip := (rfl)
theorem hi11 : fx11.hints = [(1, ⟨0, []⟩)] := (rfl)
theorem re11 : fx11.res = [(.tmp 2, 4)] := (rfl)
theorem nk11 : tab.nk 11 = 1 := (rfl)
theorem cl11_0 : (fx11.clr.lookup 0).getD ([], []) = ([14, 15, 16, 17, 18, 19, 20, 21, 22, 23, 24, 25, 26, 27, 28, 29, 30, 31, 32, 33, 34, 35, 36, 37, 38], []) := (rfl)
theorem co11 : fx11.code = Try.f11.body.getD .skip := (rfl)
theorem hi12 : fx12.hints = [(2, ⟨0, []⟩), (3, ⟨1, []⟩)] := (rfl)
theorem re12 : fx12.res = [(.tmp 0, 4)] := (rfl)
theorem nk12 : tab.nk 12 = 2 := (rfl)
theorem co12 : fx12.code = Try.f12.body.getD .skip := (rfl)
theorem hi13 : fx13.hints = [(1, ⟨0, []⟩), (2, ⟨1, []⟩), (4, ⟨2, []⟩), (6, ⟨3, []⟩), (7, ⟨4, [0]⟩), (9, ⟨7, []⟩), (60, ⟨8, []⟩)] := (rfl)
theorem re13 : fx13.res = [(.cell 2 29, 29), (.tmp 3, 34)] := (rfl)
theorem nk13 : tab.nk 13 = 9 := (rfl)
theorem cl13_0 : (fx13.clr.lookup 0).getD ([], []) = ([6, 31, 32, 33, 34, 35, 36, 37, 38, 39], [3]) := (rfl)
theorem cl13_2 : (fx13.clr.lookup 2).getD ([], []) = ([8, 9, 44, 45, 46, 47, 48, 49, 50, 51, 52, 53, 54, 55, 56, 57, 58, 59, 60, 61, 62], [7, 8]) := (rfl)
theorem co13 : fx13.code = Try.f13.body.getD .skip := (rfl)
theorem hi14 : fx14.hints = [(1, ⟨0, []⟩), (2, ⟨1, []⟩), (4, ⟨2, []⟩), (6, ⟨3, [0]⟩), (68, ⟨6, []⟩)] := (rfl)
theorem re14 : fx14.res = [(.cell 2 29, 29), (.tmp 3, 34)] := (rfl)
theorem nk14 : tab.nk 14 = 7 := (rfl)
theorem cl14_0 : (fx14.clr.lookup 0).getD ([], []) = ([25, 26, 27, 28, 29, 30, 31, 32, 33, 34, 35, 36, 37, 38, 39, 40], []) := (rfl)
theorem cl14_2 : (fx14.clr.lookup 2).getD ([], []) = ([41, 42, 43, 44, 45, 46, 47, 48, 49, 50, 51, 52, 53, 54, 55, 56, 57, 58, 59, 60, 61, 62, 63, 64, 65, 66, 67, 68, 69], [6]) := (rfl)
theorem co14 : fx14.code = Try.f14.body.getD .skip := (rfl)
theorem hi15 : fx15.hints = [(2, ⟨0, []⟩), (3, ⟨1, []⟩), (4, ⟨2, []⟩), (5, ⟨3, []⟩), (9, ⟨4, []⟩), (11, ⟨5, []⟩)] := (rfl)
theorem re15 : fx15.res = [(.cell 4 38, 38)] := (rfl)
theorem nk15 : tab.nk 15 = 6 := (rfl)
theorem cl15_0 : (fx15.clr.lookup 0).getD ([], []) = ([8, 9, 40, 41, 42, 43, 44, 45, 46, 47, 48, 49, 50, 51, 52], [4]) := (rfl)
theorem cl15_2 : (fx15.clr.lookup 2).getD ([], []) = ([10, 11, 12, 57, 58, 59, 60, 61, 62, 63, 64, 65, 66, 67, 68, 69, 70, 71, 72, 73, 74, 75, 76], [5]) := (rfl)
theorem co15 : fx15.code = Try.f15.body.getD .skip := (rfl)
theorem hi16 : fx16.hints = [(2, ⟨0, []⟩), (3, ⟨1, []⟩), (4, ⟨2, []⟩), (5, ⟨3, []⟩), (10, ⟨4, []⟩), (11, ⟨5, []⟩)] := (rfl)
theorem re16 : fx16.res = [(.cell 4 38, 38)] := (rfl)
theorem nk16 : tab.nk 16 = 6 := (rfl)
theorem cl16_0 : (fx16.clr.lookup 0).getD ([], []) = ([36, 37, 38, 39, 40, 41, 42, 43, 44, 45, 46, 47, 48, 49, 50, 51, 52, 53, 54], []) := (rfl)
theorem cl16_2 : (fx16.clr.lookup 2).getD ([], []) = ([10, 11, 12, 13, 58, 59, 60, 61, 62, 63, 64, 65, 66, 67, 68, 69, 70, 71, 72, 73, 74, 75, 76, 77, 78, 79, 80, 81, 82, 83, 84, 85, 86, 87, 88, 89, 90, 91, 92, 93, 94, 95, 96, 97, 98, 99, 100, 101, 102, 103, 104, 105, 106, 107, 108, 109, 110, 111, 112, 113, 114, 115, 116, 117, 118, 119, 120, 121, 122, 123, 124, 125, 126, 127, 128, 129, 130, 131, 132, 133, 134, 135, 136, 137, 138, 139, 140, 141, 142, 143, 144, 145, 146, 147, 148, 149, 150, 151, 152, 153, 154, 155, 156, 157, 158, 159, 160, 161, 162, 163, 164, 165, 166, 167, 168, 169, 170, 171, 172, 173, 174, 175, 176, 177, 178, 179, 180, 181, 182, 183, 184, 185, 186, 187, 188, 189, 190, 191, 192, 193, 194, 195, 196, 197, 198, 199, 200, 201, 202, 203, 204, 205, 206, 207, 208, 209, 210, 211, 212, 213, 214, 215, 216, 217, 218, 219, 220, 221, 222, 223, 224, 225, 226, 227, 228, 229], [4, 5]) := (rfl)
theorem cl16_4 : (fx16.clr.lookup 4).getD ([], []) = ([172, 173, 174, 175, 176, 177, 178, 179, 180, 181, 182, 183, 184, 185, 186, 187, 188, 189, 190, 191, 192, 193, 194, 195, 196, 197, 198, 199, 200, 201, 202, 203, 204, 205, 206, 207, 208, 209, 210, 211, 212, 213, 214, 215, 216, 217, 218, 219, 220, 221, 222, 223, 224, 225], []) := (rfl)
theorem co16 : fx16.code = Try.f16.body.getD .skip := (rfl)
theorem hi17 : fx17.hints = [(2, ⟨0, []⟩), (3, ⟨1, []⟩), (7, ⟨2, []⟩), (8, ⟨3, []⟩)] := (rfl)
theorem re17 : fx17.res = [(.tmp 4, 4)] := (rfl)
theorem nk17 : tab.nk 17 = 4 := (rfl)
theorem cl17_0 : (fx17.clr.lookup 0).getD ([], []) = ([25, 26, 27, 28, 29, 30, 31, 32, 33, 34, 35, 36, 37, 38, 39, 40, 41, 42], []) := (rfl)
theorem cl17_2 : (fx17.clr.lookup 2).getD ([], []) = ([7, 8, 43, 44, 45, 46, 47, 48, 49, 50, 51, 52, 53, 54, 55, 56, 57, 58, 59, 60, 61, 62, 63, 64, 65, 66, 67, 68, 69, 70, 71, 72, 73, 74, 75, 76, 77, 78, 79, 80, 81, 82, 83, 84, 85, 86, 87], [2, 3]) := (rfl)
theorem co17 : fx17.code = Try.f17.body.getD .skip := (rfl)
theorem hi18 : fx18.hints = [(1, ⟨0, []⟩), (3, ⟨1, []⟩), (7, ⟨2, []⟩)] := (rfl)
theorem re18 : fx18.res = [(.tmp 2, 4)] := (rfl)
theorem nk18 : tab.nk 18 = 3 := (rfl)
theorem cl18_0 : (fx18.clr.lookup 0).getD ([], []) = ([27, 28, 29, 30, 31, 32, 33, 34, 35, 36, 37, 38, 39, 40], []) := (rfl)
theorem cl18_2 : (fx18.clr.lookup 2).getD ([], []) = ([7, 41, 42, 43, 44, 45, 46, 47, 48, 49, 50, 51, 52, 53, 54, 55, 56, 57, 58, 59, 60, 61, 62, 63, 64, 65, 66, 67, 68], [2]) := (rfl)
theorem co18 : fx18.code = Try.f18.body.getD .skip := (rfl)
theorem hi19 : fx19.hints = [] := (rfl)
theorem re19 : fx19.res = [(.tmp 4, 4)] := (rfl)
theorem nk19 : tab.nk 19 = 0 := (rfl)
theorem cl19_0 : (fx19.clr.lookup 0).getD ([], []) = ([11, 12, 13, 14, 15, 16, 17, 18, 19, 20, 21, 22, 23, 24, 25, 26], []) := (rfl)
theorem hi20 : fx20.hints = [(2, ⟨0, []⟩), (3, ⟨1, []⟩), (5, ⟨2, []⟩), (37, ⟨3, []⟩), (41, ⟨4, []⟩)] := (rfl)
theorem re20 : fx20.res = [(.tmp 4, 44)] := (rfl)
theorem nk20 : tab.nk 20 = 5 := (rfl)
theorem cl20_0 : (fx20.clr.lookup 0).getD ([], []) = ([6, 8, 18, 19, 20, 21, 22, 23, 24, 25, 26, 27, 28, 29, 30, 31, 32, 33, 34, 35, 36, 37, 38, 39, 40, 41, 42, 43], [3, 4]) := (rfl)
theorem cl20_2 : (fx20.clr.lookup 2).getD ([], []) = ([8, 27, 28, 29, 30, 31, 32, 33, 34, 35, 36, 37, 38, 39, 40, 41, 42], [3, 4]) := (rfl)
theorem co20 : fx20.code = Try.f20.body.getD .skip := (rfl)
theorem hi21 : fx21.hints = [(2, ⟨0, []⟩), (3, ⟨1, []⟩), (5, ⟨2, []⟩), (40, ⟨3, []⟩), (47, ⟨4, []⟩)] := (rfl)
theorem re21 : fx21.res = [(.tmp 4, 44)] := (rfl)
theorem nk21 : tab.nk 21 = 5 := (rfl)
theorem cl21_0 : (fx21.clr.lookup 0).getD ([], []) = ([7, 8, 14, 15, 16, 17, 18, 19, 20, 21, 22, 23, 24, 25, 26, 27, 28, 29, 30, 31, 32, 33, 34, 35, 36, 37, 38, 39, 40, 41, 42, 43, 44, 45, 46, 47], [3, 4]) := (rfl)
theorem cl21_2 : (fx21.clr.lookup 2).getD ([], []) = ([32, 33, 34, 35, 36, 37, 38, 39, 40, 41, 42, 43, 44, 45, 46, 47], [3, 4]) := (rfl)
theorem co21 : fx21.code = Try.f21.body.getD .skip := (rfl)
theorem hi22 : fx22.hints = [(4, ⟨0, []⟩), (5, ⟨1, []⟩), (8, ⟨2, []⟩), (10, ⟨3, []⟩), (11, ⟨4, [0, 1]⟩), (12, ⟨7, [2]⟩), (49, ⟨12, [0, 1]⟩), (51, ⟨21, []⟩), (69, ⟨22, []⟩), (79, ⟨23, []⟩), (86, ⟨24, []⟩)] := (rfl)
theorem re22 : fx22.res = [(.cell 8 29, 29), (.tmp 9, 34)] := (rfl)
theorem nk22 : tab.nk 22 = 25 := (rfl)
theorem cl22_0 : (fx22.clr.lookup 0).getD ([], []) = ([14, 60, 61, 62, 63, 64, 65, 66, 67, 68, 69, 70, 71, 72, 73, 74, 75, 76, 77, 78, 79, 80, 81], [22, 23]) := (rfl)
theorem co22 : fx22.code = Try.f22.body.getD .skip := (rfl)
theorem hi23 : fx23.hints = [(4, ⟨0, []⟩), (5, ⟨1, []⟩), (8, ⟨2, []⟩), (10, ⟨3, []⟩)] := (rfl)
theorem re23 : fx23.res = [(.cell 8 29, 29), (.tmp 9, 34)] := (rfl)
theorem nk23 : tab.nk 23 = 4 := (rfl)
theorem cl23_0 : (fx23.clr.lookup 0).getD ([], []) = ([26, 27, 28, 29, 30, 31, 32, 33, 34, 35, 36, 37, 38, 39, 40, 41, 42, 43, 44, 45, 46, 47, 48, 49, 50, 51], []) := (rfl)
theorem co23 : fx23.code = Try.f23.body.getD .skip := (rfl)
theorem hi24 : fx24.hints = [(3, ⟨0, []⟩)] := (rfl)
theorem re24 : fx24.res = [(.tmp 6, 4)] := (rfl)
theorem nk24 : tab.nk 24 = 1 := (rfl)
theorem hi25 : fx25.hints = [(3, ⟨0, []⟩)] := (rfl)
theorem re25 : fx25.res = [(.tmp 6, 4)] := (rfl)
theorem nk25 : tab.nk 25 = 1 := (rfl)
theorem hi26 : fx26.hints = [(2, ⟨0, []⟩)] := (rfl)
theorem re26 : fx26.res = [(.tmp 4, 4)] := (rfl)
theorem nk26 : tab.nk 26 = 1 := (rfl)
theorem cl26_0 : (fx26.clr.lookup 0).getD ([], []) = ([6, 17, 18, 19, 20, 21, 22, 23, 24, 25, 26, 27, 28, 29], []) := (rfl)
theorem cl26_2 : (fx26.clr.lookup 2).getD ([], []) = ([7, 8, 10, 33, 34, 35, 36, 37, 38, 39, 40, 41, 42, 43, 44, 45, 46, 47, 48, 49, 50, 51], []) := (rfl)
theorem cl26_4 : (fx26.clr.lookup 4).getD ([], []) = ([10, 42, 43, 44, 45, 46, 47, 48, 49, 50], []) := (rfl)
theorem co26 : fx26.code = Try.f26.body.getD .skip := (rfl)
theorem hi27 : fx27.hints = [(2, ⟨0, []⟩)] := (rfl)
theorem re27 : fx27.res = [(.tmp 4, 4)] := (rfl)
theorem nk27 : tab.nk 27 = 1 := (rfl)
theorem cl27_0 : (fx27.clr.lookup 0).getD ([], []) = ([11, 12, 13, 14, 15, 16, 17, 18, 19, 20, 21, 22, 23, 24, 25, 26, 27, 28, 29, 30, 31], []) := (rfl)
theorem cl27_2 : (fx27.clr.lookup 2).getD ([], []) = ([7, 32, 33, 34, 35, 36, 37, 38, 39, 40, 41, 42, 43, 44, 45, 46, 47, 48, 49, 50, 51, 52, 53], []) := (rfl)
theorem cl27_4 : (fx27.clr.lookup 4).getD ([], []) = ([38, 39, 40, 41, 42, 43, 44, 45, 46, 47, 48, 49, 50, 51, 52, 53], []) := (rfl)
theorem co27 : fx27.code = Try.f27.body.getD .skip := (rfl)
theorem hi28 : fx28.hints = [(3, ⟨0, []⟩)] := (rfl)
theorem re28 : fx28.res = [(.tmp 6, 4)] := (rfl)
theorem nk28 : tab.nk 28 = 1 := (rfl)
theorem co28 : fx28.code = Try.f28.body.getD .skip := (rfl)
theorem hi29 : fx29.hints = [(3, ⟨0, []⟩)] := (rfl)
theorem re29 : fx29.res = [(.tmp 6, 4)] := (rfl)
theorem nk29 : tab.nk 29 = 1 := (rfl)
theorem hi30 : fx30.hints = [(2, ⟨0, []⟩), (5, ⟨1, []⟩), (25, ⟨2, []⟩)] := (rfl)
theorem re30 : fx30.res = [(.tmp 4, 46)] := (rfl)
theorem nk30 : tab.nk 30 = 3 := (rfl)
theorem cl30_0 : (fx30.clr.lookup 0).getD ([], []) = ([6, 7, 17, 18, 19, 20, 21, 22, 23, 24, 25, 26], [2]) := (rfl)
theorem hi31 : fx31.hints = [] := (rfl)
theorem re31 : fx31.res = [(.tmp 4, 4)] := (rfl)
theorem nk31 : tab.nk 31 = 0 := (rfl)
theorem cl31_0 : (fx31.clr.lookup 0).getD ([], []) = ([11, 12, 13, 14, 15, 16, 17, 18, 19, 20, 21, 22, 23, 24, 25], []) := (rfl)
theorem co31 : fx31.code = Try.f31.body.getD .skip := (rfl)
theorem hi32 : fx32.hints = [(2, ⟨0, []⟩), (6, ⟨1, []⟩), (28, ⟨2, []⟩)] := (rfl)
theorem re32 : fx32.res = [(.tmp 4, 46)] := (rfl)
theorem nk32 : tab.nk 32 = 3 := (rfl)
theorem cl32_0 : (fx32.clr.lookup 0).getD ([], []) = ([15, 16, 17, 18, 19, 20, 21, 22, 23, 24, 25, 26, 27, 28], [2]) := (rfl)
theorem hi33 : fx33.hints = [(3, ⟨0, []⟩)] := (rfl)
theorem re33 : fx33.res = [(.tmp 6, 4)] := (rfl)
theorem nk33 : tab.nk 33 = 1 := (rfl)
theorem hi34 : fx34.hints = [(3, ⟨0, []⟩)] := (rfl)
theorem re34 : fx34.res = [(.tmp 6, 4)] := (rfl)
theorem nk34 : tab.nk 34 = 1 := (rfl)
theorem hi35 : fx35.hints = [(1, ⟨0, []⟩), (2, ⟨1, []⟩), (3, ⟨2, [0]⟩), (6, ⟨4, []⟩), (9, ⟨5, []⟩)] := (rfl)
theorem re35 : fx35.res = [(.cell 2 38, 38)] := (rfl)
theorem nk35 : tab.nk 35 = 6 := (rfl)
theorem cl35_0 : (fx35.clr.lookup 0).getD ([], []) = ([5, 6, 7, 38, 39, 40, 41, 42, 43, 44, 45, 46, 47, 48, 49, 50, 51, 52, 53, 54, 55], [4]) := (rfl)
theorem cl35_2 : (fx35.clr.lookup 2).getD ([], []) = ([8, 9, 10, 60, 61, 62, 63, 64, 65, 66, 67, 68, 69, 70, 71, 72, 73, 74, 75, 76, 77, 78, 79, 80, 81, 82, 83, 84], [5]) := (rfl)
theorem co35 : fx35.code = Try.f35.body.getD .skip := (rfl)
theorem hi36 : fx36.hints = [(1, ⟨0, []⟩), (4, ⟨1, []⟩), (6, ⟨2, []⟩)] := (rfl)
theorem re36 : fx36.res = [(.tmp 2, 4)] := (rfl)
theorem nk36 : tab.nk 36 = 3 := (rfl)
theorem cl36_0 : (fx36.clr.lookup 0).getD ([], []) = ([4, 11, 12, 13, 14, 15, 16, 17, 18, 19, 20, 21, 22, 23], [1]) := (rfl)
theorem cl36_2 : (fx36.clr.lookup 2).getD ([], []) = ([6, 28, 29, 30, 31, 32, 33, 34], [2]) := (rfl)
theorem co36 : fx36.code = Try.f36.body.getD .skip := (rfl)
theorem hi37 : fx37.hints = [(1, ⟨0, []⟩), (4, ⟨1, []⟩), (8, ⟨2, []⟩)] := (rfl)
theorem re37 : fx37.res = [(.tmp 2, 4)] := (rfl)
theorem nk37 : tab.nk 37 = 3 := (rfl)
theorem cl37_0 : (fx37.clr.lookup 0).getD ([], []) = ([4, 6, 8, 13, 14, 15, 16, 17, 18, 19, 20, 21, 22, 23, 24, 25, 26, 27, 28, 29, 30, 31, 32, 33, 34, 35, 36, 37], [1, 2]) := (rfl)
theorem cl37_2 : (fx37.clr.lookup 2).getD ([], []) = ([6, 8, 23, 24, 25, 26, 27, 28, 29, 30, 31, 32, 33, 34, 35, 36], [2]) := (rfl)
theorem cl37_4 : (fx37.clr.lookup 4).getD ([], []) = ([8, 29, 30, 31, 32, 33, 34, 35], [2]) := (rfl)
theorem co37 : fx37.code = Try.f37.body.getD .skip := (rfl)
theorem hi38 : fx38.hints = [(1, ⟨0, []⟩), (2, ⟨1, []⟩)] := (rfl)
theorem re38 : fx38.res = [(.cell 2 38, 38)] := (rfl)
theorem nk38 : tab.nk 38 = 2 := (rfl)
theorem cl38_0 : (fx38.clr.lookup 0).getD ([], []) = ([4, 29, 30, 31, 32, 33, 34, 35, 36, 37, 38, 39, 40, 41, 42, 43], []) := (rfl)
theorem cl38_2 : (fx38.clr.lookup 2).getD ([], []) = ([6, 44, 45, 46, 47, 48, 49, 50, 51, 52, 53, 54, 55, 56, 57, 58, 59, 60, 61, 62], []) := (rfl)
theorem co38 : fx38.code = Try.f38.body.getD .skip := (rfl)
theorem hi39 : fx39.hints = [(1, ⟨0, []⟩)] := (rfl)
theorem re39 : fx39.res = [(.tmp 2, 4)] := (rfl)
theorem nk39 : tab.nk 39 = 1 := (rfl)
theorem cl39_0 : (fx39.clr.lookup 0).getD ([], []) = ([8, 9, 10, 11, 12, 13, 14, 15, 16, 17, 18, 19, 20, 21], []) := (rfl)
theorem cl39_2 : (fx39.clr.lookup 2).getD ([], []) = ([22, 23, 24, 25, 26, 27, 28, 29, 30, 31, 32, 33, 34, 35, 36, 37, 38, 39, 40, 41, 42, 43, 44, 45], []) := (rfl)
theorem co39 : fx39.code = Try.f39.body.getD .skip := (rfl)
theorem hi40 : fx40.hints = [(1, ⟨0, []⟩)] := (rfl)
theorem re40 : fx40.res = [(.tmp 2, 4)] := (rfl)
theorem nk40 : tab.nk 40 = 1 := (rfl)
theorem cl40_0 : (fx40.clr.lookup 0).getD ([], []) = ([7, 8, 9, 10, 11, 12, 13, 14, 15, 16, 17, 18, 19, 20, 21, 22, 23, 24, 25, 26, 27, 28, 29, 30, 31], []) := (rfl)
theorem co40 : fx40.code = Try.f40.body.getD .skip := (rfl)
theorem hi41 : fx41.hints = [(4, ⟨0, []⟩), (5, ⟨1, []⟩), (9, ⟨2, []⟩)] := (rfl)
theorem re41 : fx41.res = [(.tmp 8, 34)] := (rfl)
theorem nk41 : tab.nk 41 = 3 := (rfl)
theorem co41 : fx41.code = Try.f41.body.getD .skip := (rfl)
theorem hi42 : fx42.hints = [] := (rfl)
theorem re42 : fx42.res = [(.tmp 2, 4)] := (rfl)
theorem nk42 : tab.nk 42 = 0 := (rfl)
theorem cl42_0 : (fx42.clr.lookup 0).getD ([], []) = ([4, 5, 6, 7, 8, 9, 10, 11, 12, 13, 14, 15, 16, 17, 18, 19], []) := (rfl)
theorem co42 : fx42.code = Try.f42.body.getD .skip := (rfl)
theorem hi43 : fx43.hints = [(4, ⟨0, []⟩), (5, ⟨1, []⟩)] := (rfl)
theorem re43 : fx43.res = [(.tmp 8, 4)] := (rfl)
theorem nk43 : tab.nk 43 = 2 := (rfl)
theorem cl43_0 : (fx43.clr.lookup 0).getD ([], []) = ([11, 12, 24, 25, 26, 27, 28, 29, 30, 31, 32, 33, 34, 35, 36, 37, 38, 39, 40, 41, 42, 43, 44, 45, 46, 47, 48, 49, 50, 51, 52, 53, 54, 55], []) := (rfl)
theorem cl43_2 : (fx43.clr.lookup 2).getD ([], []) = ([30, 31, 32, 33, 34, 35, 36, 37, 38, 39, 40, 41, 42, 43, 44, 45, 46, 47, 48, 49, 50, 51, 52, 53], []) := (rfl)
theorem co43 : fx43.code = Try.f43.body.getD .skip := (rfl)
theorem hi44 : fx44.hints = [(4, ⟨0, []⟩)] := (rfl)
theorem re44 : fx44.res = [(.tmp 8, 4)] := (rfl)
theorem nk44 : tab.nk 44 = 1 := (rfl)
theorem cl44_0 : (fx44.clr.lookup 0).getD ([], []) = ([10, 11, 12, 13, 14, 15, 16, 17, 18, 19, 20, 21, 22, 23, 24, 25, 26, 27, 28, 29, 30, 31, 32], []) := (rfl)
theorem co44 : fx44.code = Try.f44.body.getD .skip := (rfl)
theorem hi45 : fx45.hints = [] := (rfl)
theorem re45 : fx45.res = [(.tmp 2, 4)] := (rfl)
theorem nk45 : tab.nk 45 = 0 := (rfl)
theorem cl45_0 : (fx45.clr.lookup 0).getD ([], []) = ([7, 8, 9, 10, 11, 12, 13, 14, 15, 16, 17, 18], []) := (rfl)
theorem co45 : fx45.code = Try.f45.body.getD .skip := (rfl)
theorem hi46 : fx46.hints = [(2, ⟨0, []⟩), (5, ⟨1, [0]⟩), (6, ⟨3, []⟩)] := (rfl)
theorem re46 : fx46.res = [(.tmp 4, 44)] := (rfl)
theorem nk46 : tab.nk 46 = 4 := (rfl)
theorem co46 : fx46.code = Try.f46.body.getD .skip := (rfl)
theorem hi47 : fx47.hints = [(2, ⟨0, []⟩)] := (rfl)
theorem re47 : fx47.res = [(.tmp 4, 46)] := (rfl)
theorem nk47 : tab.nk 47 = 1 := (rfl)
theorem co47 : fx47.code = Try.f47.body.getD .skip := (rfl)
theorem hi48 : fx48.hints = [(3, ⟨0, []⟩), (8, ⟨1, []⟩)] := (rfl)
theorem re48 : fx48.res = [(.tmp 6, 4)] := (rfl)
theorem nk48 : tab.nk 48 = 2 := (rfl)
theorem cl48_0 : (fx48.clr.lookup 0).getD ([], []) = ([8, 13, 14, 15, 16, 17, 18, 19, 20, 21, 22, 23, 24, 25, 26], [1]) := (rfl)
theorem co48 : fx48.code = Try.f48.body.getD .skip := (rfl)
theorem hi49 : fx49.hints = [(6, ⟨0, []⟩), (7, ⟨1, []⟩), (13, ⟨2, []⟩), (80, ⟨3, []⟩), (93, ⟨4, []⟩)] := (rfl)
theorem re49 : fx49.res = [(.tmp 12, 44)] := (rfl)
theorem nk49 : tab.nk 49 = 5 := (rfl)
theorem cl49_0 : (fx49.clr.lookup 0).getD ([], []) = ([15, 16, 17, 41, 42, 43, 44, 45, 46, 47, 48, 49, 50, 51, 52, 53, 54, 55, 56, 57, 58, 59, 60, 61, 62, 63, 64, 65, 66, 67, 68, 69, 70, 71, 72, 73, 74, 75, 76, 77, 78, 79, 80, 81, 82, 83, 84, 85, 86, 87, 88, 89, 90, 91, 92, 93], [3, 4]) := (rfl)
theorem cl49_2 : (fx49.clr.lookup 2).getD ([], []) = ([62, 63, 64, 65, 66, 67, 68, 69, 70, 71, 72, 73, 74, 75, 76, 77], []) := (rfl)
theorem co49 : fx49.code = Try.f49.body.getD .skip := (rfl)
theorem hi50 : fx50.hints = [(3, ⟨0, []⟩), (4, ⟨1, []⟩), (5, ⟨2, []⟩), (11, ⟨4, []⟩), (64, ⟨3, []⟩)] := (rfl)
theorem re50 : fx50.res = [(.tmp 6, 34)] := (rfl)
theorem nk50 : tab.nk 50 = 5 := (rfl)
theorem cl50_0 : (fx50.clr.lookup 0).getD ([], []) = ([25, 26, 27, 28, 29, 30, 31, 32, 33, 34, 35, 36, 37, 38, 39, 40, 41, 42, 43], []) := (rfl)
theorem cl50_2 : (fx50.clr.lookup 2).getD ([], []) = ([10, 48, 49, 50, 51, 52, 53, 54, 55, 56, 57, 58, 59, 60], []) := (rfl)
theorem cl50_4 : (fx50.clr.lookup 4).getD ([], []) = ([13, 14, 69, 70, 71, 72, 73, 74, 75, 76, 77, 78, 79, 80, 81, 82, 83, 84, 85, 86, 87, 88, 89, 90, 91], []) := (rfl)
theorem co50 : fx50.code = Try.f50.body.getD .skip := (rfl)
theorem hi51 : fx51.hints = [(1, ⟨0, []⟩), (2, ⟨1, [0, 1]⟩), (3, ⟨4, [0, 1]⟩), (5, ⟨7, []⟩), (10, ⟨8, []⟩), (19, ⟨9, []⟩), (24, ⟨10, []⟩), (33, ⟨11, []⟩)] := (rfl)
theorem re51 : fx51.res = [(.cell 2 29, 29)] := (rfl)
theorem nk51 : tab.nk 51 = 12 := (rfl)
theorem cl51_0 : (fx51.clr.lookup 0).getD ([], []) = ([5, 16, 17, 18, 19, 20, 21, 22, 23, 24, 25, 26, 27, 28, 29, 30, 31, 32, 33, 34, 35], [7, 9, 10, 11]) := (rfl)
theorem co51 : fx51.code = Try.f51.body.getD .skip := (rfl)
theorem hi52 : fx52.hints = [(2, ⟨0, []⟩)] := (rfl)
theorem re52 : fx52.res = [(.tmp 4, 46)] := (rfl)
theorem nk52 : tab.nk 52 = 1 := (rfl)
theorem co52 : fx52.code = Try.f52.body.getD .skip := (rfl)
theorem hi53 : fx53.hints = [(4, ⟨0, []⟩), (5, ⟨1, []⟩), (8, ⟨2, []⟩), (9, ⟨3, [0, 1]⟩), (10, ⟨6, [2]⟩), (16, ⟨11, []⟩), (22, ⟨12, []⟩), (45, ⟨13, []⟩), (64, ⟨14, []⟩), (70, ⟨15, []⟩)] := (rfl)
theorem re53 : fx53.res = [(.cell 8 29, 29)] := (rfl)
theorem nk53 : tab.nk 53 = 16 := (rfl)
theorem cl53_0 : (fx53.clr.lookup 0).getD ([], []) = ([28, 29, 30, 31, 32, 33, 34, 35, 36, 37, 38, 39, 40, 41, 42, 43, 44, 45, 46, 47, 48, 49, 50, 51, 52, 53, 54, 55, 56, 57, 58, 59, 60, 61, 62, 63, 64, 65], [13, 14]) := (rfl)
theorem co53 : fx53.code = Try.f53.body.getD .skip := (rfl)
theorem hi54 : fx54.hints = [(1, ⟨0, []⟩), (4, ⟨1, []⟩), (6, ⟨2, []⟩)] := (rfl)
theorem re54 : fx54.res = [(.tmp 2, 4)] := (rfl)
theorem nk54 : tab.nk 54 = 3 := (rfl)
theorem cl54_0 : (fx54.clr.lookup 0).getD ([], []) = ([4, 13, 14, 15, 16, 17, 18, 19, 20, 21, 22, 23, 24, 25, 26, 27], [1]) := (rfl)
theorem cl54_2 : (fx54.clr.lookup 2).getD ([], []) = ([5, 6, 8, 32, 33, 34, 35, 36, 37, 38, 39, 40, 41, 42, 43, 44, 45, 46, 47, 48, 49, 50, 51, 52, 53, 54, 55, 56, 57, 58, 59, 60, 61, 62, 63], [2]) := (rfl)
theorem cl54_4 : (fx54.clr.lookup 4).getD ([], []) = ([8, 40, 41, 42, 43, 44, 45, 46, 47, 48, 49, 50, 51, 52, 53, 54, 55, 56, 57, 58, 59, 60, 61, 62], []) := (rfl)
theorem co54 : fx54.code = Try.f54.body.getD .skip := (rfl)
theorem hi55 : fx55.hints = [(3, ⟨0, []⟩)] := (rfl)
theorem re55 : fx55.res = [(.tmp 6, 4)] := (rfl)
theorem nk55 : tab.nk 55 = 1 := (rfl)
theorem co55 : fx55.code = Try.f55.body.getD .skip := (rfl)
theorem hi56 : fx56.hints = [(1, ⟨0, []⟩)] := (rfl)
theorem re56 : fx56.res = [(.tmp 2, 4)] := (rfl)
theorem nk56 : tab.nk 56 = 1 := (rfl)
theorem cl56_0 : (fx56.clr.lookup 0).getD ([], []) = ([7, 8, 9, 10, 11, 12, 13, 14, 15, 16, 17, 18, 19, 20, 21, 22, 23, 24, 25, 26, 27, 28, 29, 30, 31, 32], []) := (rfl)
theorem cl56_2 : (fx56.clr.lookup 2).getD ([], []) = ([5, 6, 33, 34, 35, 36, 37, 38, 39, 40, 41, 42, 43, 44, 45, 46, 47, 48, 49, 50, 51, 52, 53, 54, 55, 56, 57, 58, 59, 60, 61, 62, 63, 64, 65, 66, 67, 68, 69, 70, 71, 72, 73, 74, 75, 76, 77, 78], []) := (rfl)
theorem cl56_4 : (fx56.clr.lookup 4).getD ([], []) = ([6, 40, 41, 42, 43, 44, 45, 46, 47, 48, 49, 50, 51, 52, 53, 54, 55, 56, 57, 58, 59, 60, 61, 62, 63, 64, 65, 66, 67, 68, 69, 70, 71, 72, 73, 74, 75, 76, 77, 78], []) := (rfl)
theorem co56 : fx56.code = Try.f56.body.getD .skip := (rfl)
theorem hi57 : fx57.hints = [(3, ⟨0, []⟩)] := (rfl)
theorem re57 : fx57.res = [(.tmp 6, 4)] := (rfl)
theorem nk57 : tab.nk 57 = 1 := (rfl)
theorem co57 : fx57.code = Try.f57.body.getD .skip := (rfl)
theorem hi58 : fx58.hints = [(2, ⟨0, []⟩)] := (rfl)
theorem re58 : fx58.res = [(.tmp 4, 4)] := (rfl)
theorem nk58 : tab.nk 58 = 1 := (rfl)
theorem co58 : fx58.code = Try.f58.body.getD .skip := (rfl)
theorem hi60 : fx60.hints = [(2, ⟨0, []⟩), (5, ⟨1, [0]⟩), (6, ⟨3, []⟩), (10, ⟨4, []⟩)] := (rfl)
theorem re60 : fx60.res = [(.tmp 4, 51)] := (rfl)
theorem nk60 : tab.nk 60 = 5 := (rfl)
theorem co60 : fx60.code = Try.f60.body.getD .skip := (rfl)
theorem hi61 : fx61.hints = [(2, ⟨0, []⟩)] := (rfl)
theorem re61 : fx61.res = [(.tmp 4, 4)] := (rfl)
theorem nk61 : tab.nk 61 = 1 := (rfl)
theorem hi62 : fx62.hints = [(2, ⟨0, []⟩), (5, ⟨2, []⟩), (12, ⟨1, []⟩)] := (rfl)
theorem re62 : fx62.res = [(.tmp 4, 51)] := (rfl)
theorem nk62 : tab.nk 62 = 3 := (rfl)
theorem cl62_0 : (fx62.clr.lookup 0).getD ([], []) = ([7, 8, 20, 21, 22, 23, 24, 25, 26, 27, 28, 29, 30, 31, 32, 33, 34, 35, 36, 37, 38, 39, 40, 41, 42, 43, 44, 45, 46, 47, 48, 49, 50, 51, 52, 53, 54, 55, 56, 57, 58], []) := (rfl)
theorem cl62_2 : (fx62.clr.lookup 2).getD ([], []) = ([8, 29, 30, 31, 32, 33, 34, 35, 36, 37, 38, 39, 40, 41, 42, 43, 44, 45, 46, 47, 48, 49, 50, 51, 52, 53, 54, 55, 56, 57, 58], []) := (rfl)
theorem co62 : fx62.code = Try.f62.body.getD .skip := (rfl)
theorem hi63 : fx63.hints = [(3, ⟨0, []⟩)] := (rfl)
theorem re63 : fx63.res = [(.tmp 6, 4)] := (rfl)
theorem nk63 : tab.nk 63 = 1 := (rfl)
theorem cl63_0 : (fx63.clr.lookup 0).getD ([], []) = ([10, 17, 18, 19, 20, 21, 22, 23, 24, 25, 26, 27, 28, 29, 30, 31, 32, 33, 34, 35, 36, 37, 38, 39, 40, 41, 42, 43, 44, 45, 46, 47, 48, 49, 50, 51, 52, 53, 54, 55, 56, 57, 58], []) := (rfl)
theorem cl63_2 : (fx63.clr.lookup 2).getD ([], []) = ([23, 24, 25, 26, 27, 28, 29, 30, 31, 32, 33, 34, 35, 36, 37, 38, 39, 40, 41, 42, 43, 44, 45, 46, 47, 48, 49, 50, 51, 52, 53, 54, 55, 56, 57, 58], []) := (rfl)
theorem co63 : fx63.code = Try.f63.body.getD .skip := (rfl)
theorem hi65 : fx65.hints = [(22, ⟨0, []⟩)] := (rfl)
theorem re65 : fx65.res = [(.tmp 3, 34)] := (rfl)
theorem nk65 : tab.nk 65 = 1 := (rfl)
theorem cl65_0 : (fx65.clr.lookup 0).getD ([], []) = ([5, 12, 13, 14, 15, 16, 17, 18], []) := (rfl)
theorem co65 : fx65.code = Try.f65.body.getD .skip := (rfl)
theorem hi66 : fx66.hints = [(1, ⟨0, []⟩)] := (rfl)
theorem re66 : fx66.res = [(.tmp 2, 34)] := (rfl)
theorem nk66 : tab.nk 66 = 1 := (rfl)
theorem co66 : fx66.code = Try.f66.body.getD .skip := (rfl)
theorem hi67 : fx67.hints = [(2, ⟨0, []⟩)] := (rfl)
theorem re67 : fx67.res = [(.tmp 4, 34)] := (rfl)
theorem nk67 : tab.nk 67 = 1 := (rfl)
theorem cl67_0 : (fx67.clr.lookup 0).getD ([], []) = ([6, 7, 25, 26, 27, 28, 29, 30, 31, 32, 33, 34], []) := (rfl)
theorem co67 : fx67.code = Try.f67.body.getD .skip := (rfl)
theorem hi68 : fx68.hints = [(1, ⟨0, []⟩)] := (rfl)
theorem re68 : fx68.res = [(.tmp 2, 4)] := (rfl)
theorem nk68 : tab.nk 68 = 1 := (rfl)
theorem co68 : fx68.code = Try.f68.body.getD .skip := (rfl)
theorem hi69 : fx69.hints = [] := (rfl)
theorem re69 : fx69.res = [(.tmp 2, 4)] := (rfl)
theorem nk69 : tab.nk 69 = 0 := (rfl)
theorem cl69_0 : (fx69.clr.lookup 0).getD ([], []) = ([4, 5, 6, 15, 16, 17, 18, 19, 20, 21, 22, 23, 24, 25, 26, 27, 28, 29, 30, 31, 32, 33, 34, 35, 36, 37, 38, 39, 40, 41, 42, 43, 44, 45, 46, 47, 48, 49, 50, 51, 52, 53], []) := (rfl)
theorem co69 : fx69.code = Try.f69.body.getD .skip := (rfl)
theorem hi70 : fx70.hints = [(2, ⟨0, []⟩), (5, ⟨1, []⟩)] := (rfl)
theorem re70 : fx70.res = [(.tmp 4, 34)] := (rfl)
theorem nk70 : tab.nk 70 = 2 := (rfl)
theorem cl70_0 : (fx70.clr.lookup 0).getD ([], []) = ([16, 17, 18, 19, 20, 21, 22, 23, 24, 25, 26, 27, 28, 29], []) := (rfl)
theorem co70 : fx70.code = Try.f70.body.getD .skip := (rfl)
theorem hi71 : fx71.hints = [(2, ⟨0, []⟩), (5, ⟨1, []⟩)] := (rfl)
theorem re71 : fx71.res = [(.tmp 4, 34)] := (rfl)
theorem nk71 : tab.nk 71 = 2 := (rfl)
theorem cl71_0 : (fx71.clr.lookup 0).getD ([], []) = ([19, 20, 21, 22, 23, 24, 25, 26, 27, 28, 29, 30, 31, 32, 33, 34], []) := (rfl)
theorem cl71_2 : (fx71.clr.lookup 2).getD ([], []) = ([35, 36, 37, 38, 39, 40, 41, 42, 43, 44, 45, 46, 47, 48], []) := (rfl)
theorem co71 : fx71.code = Try.f71.body.getD .skip := (rfl)
theorem hi72 : fx72.hints = [(1, ⟨0, []⟩)] := (rfl)
theorem re72 : fx72.res = [(.tmp 2, 4)] := (rfl)
theorem nk72 : tab.nk 72 = 1 := (rfl)
theorem co72 : fx72.code = Try.f72.body.getD .skip := (rfl)
theorem hi73 : fx73.hints = [] := (rfl)
theorem re73 : fx73.res = [(.tmp 2, 4)] := (rfl)
theorem nk73 : tab.nk 73 = 0 := (rfl)
theorem cl73_0 : (fx73.clr.lookup 0).getD ([], []) = ([4, 5, 6, 7, 8, 9, 10, 11, 12, 13, 14, 15], []) := (rfl)
theorem co73 : fx73.code = Try.f73.body.getD .skip := (rfl)
theorem hi74 : fx74.hints = [(4, ⟨0, []⟩), (5, ⟨1, []⟩), (9, ⟨2, []⟩)] := (rfl)
theorem re74 : fx74.res = [(.tmp 8, 34)] := (rfl)
theorem nk74 : tab.nk 74 = 3 := (rfl)
theorem cl74_0 : (fx74.clr.lookup 0).getD ([], []) = ([11, 12, 32, 33, 34, 35, 36, 37, 38, 39, 40, 41, 42, 43, 44, 45, 46, 47, 48, 49, 50, 51, 52, 53, 54, 55, 56, 57, 58, 59, 60, 61, 62], []) := (rfl)
theorem co74 : fx74.code = Try.f74.body.getD .skip := (rfl)
theorem hi75 : fx75.hints = [(7, ⟨1, []⟩), (10, ⟨3, []⟩), (18, ⟨0, []⟩), (25, ⟨2, []⟩), (77, ⟨4, []⟩)] := (rfl)
theorem re75 : fx75.res = [] := (rfl)
theorem nk75 : tab.nk 75 = 5 := (rfl)
theorem cl75_0 : (fx75.clr.lookup 0).getD ([], []) = ([10, 12, 37, 38, 39, 40, 41, 42, 43, 44, 45, 46, 47, 48, 49, 50, 51, 52, 53, 54, 55, 56, 57, 58, 59, 60, 61, 62, 63, 64, 65, 66, 67, 68, 69, 70, 71, 72, 73, 74, 75, 76, 77, 78, 79, 80, 81, 82, 83, 84, 85], [3, 4]) := (rfl)
theorem cl75_2 : (fx75.clr.lookup 2).getD ([], []) = ([12, 63, 64, 65, 66, 67, 68, 69, 70, 71, 72, 73, 74, 75, 76, 77, 78], [4]) := (rfl)
theorem co75 : fx75.code = Try.f75.body.getD .skip := (rfl)
theorem hi76 : fx76.hints = [] := (rfl)
theorem re76 : fx76.res = [(.tmp 4, 4)] := (rfl)
theorem nk76 : tab.nk 76 = 0 := (rfl)
theorem cl76_0 : (fx76.clr.lookup 0).getD ([], []) = ([6, 10, 11, 12, 13, 14, 15, 16], []) := (rfl)
theorem co76 : fx76.code = Try.f76.body.getD .skip := (rfl)
theorem hi77 : fx77.hints = [(3, ⟨0, []⟩)] := (rfl)
theorem re77 : fx77.res = [(.tmp 6, 4)] := (rfl)
theorem nk77 : tab.nk 77 = 1 := (rfl)
theorem cl77_0 : (fx77.clr.lookup 0).getD ([], []) = ([8, 12, 13, 14, 15, 16, 17, 18, 19, 20], []) := (rfl)
theorem co77 : fx77.code = Try.f77.body.getD .skip := (rfl)
theorem hi78 : fx78.hints = [(3, ⟨1, []⟩), (5, ⟨0, []⟩), (16, ⟨2, []⟩)] := (rfl)
theorem re78 : fx78.res = [(.tmp 2, 46)] := (rfl)
theorem nk78 : tab.nk 78 = 3 := (rfl)
theorem cl78_0 : (fx78.clr.lookup 0).getD ([], []) = ([5, 9, 10, 11, 12, 13, 14, 15, 16, 17], [0, 2]) := (rfl)
theorem co78 : fx78.code = Try.f78.body.getD .skip := (rfl)
theorem hi79 : fx79.hints = [] := (rfl)
theorem re79 : fx79.res = [(.tmp 4, 4)] := (rfl)
theorem nk79 : tab.nk 79 = 0 := (rfl)
theorem cl79_0 : (fx79.clr.lookup 0).getD ([], []) = ([5, 6, 15, 16, 17, 18, 19, 20, 21, 22, 23, 24, 25], []) := (rfl)
theorem co79 : fx79.code = Try.f79.body.getD .skip := (rfl)
theorem hi80 : fx80.hints = [(2, ⟨0, []⟩), (3, ⟨1, []⟩), (17, ⟨2, []⟩)] := (rfl)
theorem re80 : fx80.res = [(.tmp 2, 46)] := (rfl)
theorem nk80 : tab.nk 80 = 3 := (rfl)
theorem cl80_0 : (fx80.clr.lookup 0).getD ([], []) = ([5, 6, 7, 8, 9, 10, 11, 12, 13, 14, 15, 16, 17], [2]) := (rfl)
theorem co80 : fx80.code = Try.f80.body.getD .skip := (rfl)
theorem hi81 : fx81.hints = [] := (rfl)
theorem re81 : fx81.res = [(.tmp 4, 3)] := (rfl)
theorem nk81 : tab.nk 81 = 0 := (rfl)
theorem cl81_0 : (fx81.clr.lookup 0).getD ([], []) = ([6, 7, 8, 9, 10, 11, 12, 13, 14, 15, 16, 17, 18, 19, 20, 21, 22, 23], []) := (rfl)
theorem co81 : fx81.code = Try.f81.body.getD .skip := (rfl)
theorem hi83 : fx83.hints = [(3, ⟨0, []⟩)] := (rfl)
theorem re83 : fx83.res = [(.tmp 6, 4)] := (rfl)
theorem nk83 : tab.nk 83 = 1 := (rfl)
theorem cl83_0 : (fx83.clr.lookup 0).getD ([], []) = ([12, 13, 14, 15, 16, 17, 18, 19, 20, 21, 22, 23, 24, 25, 26, 27, 28, 29, 30, 31], []) := (rfl)
theorem co83 : fx83.code = Try.f83.body.getD .skip := (rfl)
theorem hi85 : fx85.hints = [] := (rfl)
theorem re85 : fx85.res = [] := (rfl)
theorem nk85 : tab.nk 85 = 0 := (rfl)
theorem cl85_0 : (fx85.clr.lookup 0).getD ([], []) = ([6, 26, 27, 28, 29, 30, 31, 32, 33, 34, 35, 36, 37], []) := (rfl)
theorem co85 : fx85.code = Try.f85.body.getD .skip := (rfl)
theorem hi86 : fx86.hints = [] := (rfl)
theorem re86 : fx86.res = [(.tmp 4, 4)] := (rfl)
theorem nk86 : tab.nk 86 = 0 := (rfl)
theorem cl86_0 : (fx86.clr.lookup 0).getD ([], []) = ([6, 7, 8, 9, 10, 11, 12, 13, 14, 15, 16, 17], []) := (rfl)
theorem co86 : fx86.code = Try.f86.body.getD .skip := (rfl)
theorem hi87 : fx87.hints = [] := (rfl)
theorem re87 : fx87.res = [(.tmp 4, 4)] := (rfl)
theorem nk87 : tab.nk 87 = 0 := (rfl)
theorem cl87_0 : (fx87.clr.lookup 0).getD ([], []) = ([6, 14, 15, 16, 17, 18, 19, 20, 21, 22, 23], []) := (rfl)
theorem co87 : fx87.code = Try.f87.body.getD .skip := (rfl)
theorem hi88 : fx88.hints = [(6, ⟨0, []⟩)] := (rfl)
theorem re88 : fx88.res = [(.tmp 4, 34)] := (rfl)
theorem nk88 : tab.nk 88 = 1 := (rfl)
theorem cl88_0 : (fx88.clr.lookup 0).getD ([], []) = ([5, 6, 10, 11, 12, 13, 14, 15, 16, 17, 18, 19, 20, 21, 22, 23, 24, 25, 26, 27, 28, 29, 30, 31, 32, 33, 34, 35, 36, 37, 38, 39, 40, 41, 42, 43, 44, 45, 46, 47], [0]) := (rfl)
theorem co88 : fx88.code = Try.f88.body.getD .skip := (rfl)
theorem hi89 : fx89.hints = [(2, ⟨0, []⟩)] := (rfl)
theorem re89 : fx89.res = [(.tmp 4, 34)] := (rfl)
theorem nk89 : tab.nk 89 = 1 := (rfl)
theorem cl89_0 : (fx89.clr.lookup 0).getD ([], []) = ([6, 7, 8, 9, 10, 11, 12, 13, 14, 15, 16, 17, 18, 19, 20, 21, 22, 23, 24, 25, 26, 27, 28, 29, 30, 31, 32, 33, 34, 35, 36, 37, 38, 39, 40, 41, 42, 43, 44, 45, 46, 47, 48, 49, 50, 51, 52, 53, 54, 55, 56, 57, 58], []) := (rfl)
theorem co89 : fx89.code = Try.f89.body.getD .skip := (rfl)
theorem hi90 : fx90.hints = [] := (rfl)
theorem re90 : fx90.res = [(.tmp 4, 4)] := (rfl)
theorem nk90 : tab.nk 90 = 0 := (rfl)
theorem cl90_0 : (fx90.clr.lookup 0).getD ([], []) = ([6, 7, 8, 9, 10, 11, 12, 13, 14, 15, 16, 17], []) := (rfl)
theorem co90 : fx90.code = Try.f90.body.getD .skip := (rfl)
theorem nk59 : tab.nk 59 = 0 := (rfl)
theorem xt59 : tab.fns.lookup 59 = none := (rfl)
theorem nk64 : tab.nk 64 = 0 := (rfl)
theorem xt64 : tab.fns.lookup 64 = none := (rfl)
theorem nk82 : tab.nk 82 = 0 := (rfl)
theorem xt82 : tab.fns.lookup 82 = none := (rfl)
theorem nk84 : tab.nk 84 = 0 := (rfl)
theorem xt84 : tab.fns.lookup 84 = none := (rfl)
theorem nk91 : tab.nk 91 = 0 := (rfl)
theorem xt91 : tab.fns.lookup 91 = none := (rfl)
attribute [go_sem] ty0 fl0 by0 ze0 sz0 ty1 fl1 by1 ze1 sz1 okT1 okE1 ty2 fl2 by2 ze2 sz2 okT2 okE2 ty3 fl3 by3 ze3 sz3 okT3 okE3 ty4 fl4 by4 ze4 sz4 okT4 okE4 ty5 fl5 by5 ze5 sz5 okT5 okE5 ty6 fl6 by6 ze6 sz6 okT6 okE6 ty7 fl7 by7 ze7 sz7 okT7 okE7 ag7 pa7_0 pa7_1 pa7_2 pa7_3 ty8 fl8 by8 ze8 sz8 okT8 okE8 ag8 pa8_0 pa8_1 pa8_2 pa8_3 ty9 fl9 by9 ze9 sz9 okT9 okE9 ty10 fl10 by10 ze10 sz10 okT10 okE10 ty11 fl11 by11 ze11 sz11 okT11 okE11 ty12 fl12 by12 ze12 sz12 okT12 okE12 ty15 fl15 by15 ze15 sz15 okT15 okE15 ty16 fl16 by16 ze16 sz16 okT16 okE16 ty17 fl17 by17 ze17 sz17 okT17 okE17 ty21 fl21 by21 ze21 sz21 okT21 okE21 ty22 fl22 by22 ze22 sz22 okT22 okE22 el22 ty23 fl23 by23 ze23 sz23 okT23 okE23 el23 ty24 fl24 by24 ze24 sz24 okT24 okE24 ag24 pa24_0 pa24_1 pa24_2 ty25 fl25 by25 ze25 sz25 okT25 okE25 ag25 pa25_0 pa25_1 pa25_2 ty26 fl26 by26 ze26 sz26 okT26 okE26 el26 ty27 fl27 by27 ze27 sz27 okT27 okE27 el27 ty28 fl28 by28 ze28 sz28 okT28 okE28 ag28 pa28_0 pa28_1 ty29 fl29 by29 ze29 sz29 okT29 okE29 ag29 pa29_0 pa29_1 ty31 fl31 by31 ze31 sz31 okT31 okE31 ty32 fl32 by32 ze32 sz32 okT32 okE32 ty33 fl33 by33 ze33 sz33 okT33 okE33 ty34 fl34 by34 ze34 sz34 okT34 okE34 ty36 fl36 by36 ze36 sz36 okT36 okE36 ty37 fl37 by37 ze37 sz37 okT37 okE37 ag37 pa37_0 pa37_1 ty38 fl38 by38 ze38 sz38 okT38 okE38 ag38 pa38_0 pa38_1 ty39 fl39 by39 ze39 sz39 okT39 okE39 ty40 fl40 by40 ze40 sz40 okT40 okE40 ty41 fl41 by41 ze41 sz41 okT41 okE41 ty42 fl42 by42 ze42 sz42 okT42 okE42 ty43 fl43 by43 ze43 sz43 okT43 okE43 ty44 fl44 by44 ze44 sz44 okT44 okE44 el44 ty45 fl45 by45 ze45 sz45 okT45 okE45 ty46 fl46 by46 ze46 sz46 okT46 okE46 el46 ty47 fl47 by47 ze47 sz47 okT47 okE47 ty48 fl48 by48 ze48 sz48 okT48 okE48 ty49 fl49 by49 ze49 sz49 okT49 okE49 ty50 fl50 by50 ze50 sz50 okT50 okE50 ty51 fl51 by51 ze51 sz51 okT51 okE51 el51 ty52 fl52 by52 ze52 sz52 okT52 okE52 ty53 fl53 by53 ze53 sz53 okT53 okE53 ag53 pa53_0 pa53_1 ty54 fl54 by54 ze54 sz54 okT54 okE54 ag54 pa54_0 pa54_1 ty55 fl55 by55 ze55 sz55 okT55 okE55 ag55 pa55_0 pa55_1 pa55_2 pa55_3 ty56 fl56 by56 ze56 sz56 okT56 okE56 ag56 pa56_0 pa56_1 pa56_2 pa56_3 ty57 fl57 by57 ze57 sz57 okT57 okE57 ty58 fl58 by58 ze58 sz58 okT58 okE58 ag58 pa58_0 pa58_1 pa58_2 ty59 fl59 by59 ze59 sz59 okT59 okE59 ag59 pa59_0 pa59_1 pa59_2 ty60 fl60 by60 ze60 sz60 okT60 okE60 el60 ty61 fl61 by61 ze61 sz61 okT61 okE61 ag61 pa61_0 pa61_1 pa61_2 pa61_3 pa61_4 ty62 fl62 by62 ze62 sz62 okT62 okE62 ag62 pa62_0 pa62_1 pa62_2 pa62_3 pa62_4 ty63 fl63 by63 ze63 sz63 okT63 okE63 ag63 pa63_0 pa63_1 ty64 fl64 by64 ze64 sz64 okT64 okE64 ag64 pa64_0 pa64_1 ty65 fl65 by65 ze65 sz65 okT65 okE65 ty66 fl66 by66 ze66 sz66 okT66 okE66 ty67 fl67 by67 ze67 sz67 okT67 okE67 ty68 fl68 by68 ze68 sz68 okT68 okE68 ty69 fl69 by69 ze69 sz69 okT69 okE69 ty70 fl70 by70 ze70 sz70 okT70 okE70 ty71 fl71 by71 ze71 sz71 okT71 okE71 ty72 fl72 by72 ze72 sz72 okT72 okE72 ty73 fl73 by73 ze73 sz73 okT73 okE73 ty74 fl74 by74 ze74 sz74 okT74 okE74 ty75 fl75 by75 ze75 sz75 okT75 okE75 ty76 fl76 by76 ze76 sz76 okT76 okE76 ty77 fl77 by77 ze77 sz77 okT77 okE77 ty78 fl78 by78 ze78 sz78 okT78 okE78 ty79 fl79 by79 ze79 sz79 okT79 okE79 ty80 fl80 by80 ze80 sz80 okT80 okE80 ty81 fl81 by81 ze81 sz81 okT81 okE81 ty82 fl82 by82 ze82 sz82 okT82 okE82 el82 ty83 fl83 by83 ze83 sz83 okT83 okE83 ty84 fl84 by84 ze84 sz84 okT84 okE84 ty85 fl85 by85 ze85 sz85 okT85 okE85 ty86 fl86 by86 ze86 sz86 okT86 okE86 el86 ty87 fl87 by87 ze87 sz87 okT87 okE87 ty88 fl88 by88 ze88 sz88 okT88 okE88 ty89 fl89 by89 ze89 sz89 okT89 okE89 ty90 fl90 by90 ze90 sz90 okT90 okE90 ty91 fl91 by91 ze91 sz91 okT91 okE91 ty92 fl92 by92 ze92 sz92 okT92 okE92 ty93 fl93 by93 ze93 sz93 okT93 okE93 ty94 fl94 by94 ze94 sz94 okT94 okE94 ty95 fl95 by95 ze95 sz95 okT95 okE95 ty96 fl96 by96 ze96 sz96 okT96 okE96 ty97 fl97 by97 ze97 sz97 okT97 okE97 ty98 fl98 by98 ze98 sz98 okT98 okE98 ty99 fl99 by99 ze99 sz99 okT99 okE99 ty100 fl100 by100 ze100 sz100 okT100 okE100 ty101 fl101 by101 ze101 sz101 okT101 okE101 ty107 fl107 by107 ze107 sz107 okT107 okE107 ty108 fl108 by108 ze108 sz108 okT108 okE108 ty109 fl109 by109 ze109 sz109 okT109 okE109 ty110 fl110 by110 ze110 sz110 okT110 okE110 ty111 fl111 by111 ze111 sz111 okT111 okE111 ty112 fl112 by112 ze112 sz112 okT112 okE112 ty113 fl113 by113 ze113 sz113 okT113 okE113 ty114 fl114 by114 ze114 sz114 okT114 okE114 hi3 re3 nk3 hi4 re4 nk4 hi5 re5 nk5 hi6 re6 nk6 cl6_0 cl6_2 hi7 re7 nk7 cl7_0 cl7_2 hi8 re8 nk8 cl8_0 cl8_2 cl8_4 cl8_6 cl8_8 cl8_10 cl8_12 hi9 re9 nk9 cl9_0 cl9_2 hi10 re10 nk10 cl10_0 cl10_2 hi11 re11 nk11 cl11_0 hi12 re12 nk12 hi13 re13 nk13 cl13_0 cl13_2 hi14 re14 nk14 cl14_0 cl14_2 hi15 re15 nk15 cl15_0 cl15_2 hi16 re16 nk16 cl16_0 cl16_2 cl16_4 hi17 re17 nk17 cl17_0 cl17_2 hi18 re18 nk18 cl18_0 cl18_2 hi19 re19 nk19 cl19_0 hi20 re20 nk20 cl20_0 cl20_2 hi21 re21 nk21 cl21_0 cl21_2 hi22 re22 nk22 cl22_0 hi23 re23 nk23 cl23_0 hi24 re24 nk24 hi25 re25 nk25 hi26 re26 nk26 cl26_0 cl26_2 cl26_4 hi27 re27 nk27 cl27_0 cl27_2 cl27_4 hi28 re28 nk28 hi29 re29 nk29 hi30 re30 nk30 cl30_0 hi31 re31 nk31 cl31_0 hi32 re32 nk32 cl32_0 hi33 re33 nk33 hi34 re34 nk34 hi35 re35 nk35 cl35_0 cl35_2 hi36 re36 nk36 cl36_0 cl36_2 hi37 re37 nk37 cl37_0 cl37_2 cl37_4 hi38 re38 nk38 cl38_0 cl38_2 hi39 re39 nk39 cl39_0 cl39_2 hi40 re40 nk40 cl40_0 hi41 re41 nk41 hi42 re42 nk42 cl42_0 hi43 re43 nk43 cl43_0 cl43_2 hi44 re44 nk44 cl44_0 hi45 re45 nk45 cl45_0 hi46 re46 nk46 hi47 re47 nk47 hi48 re48 nk48 cl48_0 hi49 re49 nk49 cl49_0 cl49_2 hi50 re50 nk50 cl50_0 cl50_2 cl50_4 hi51 re51 nk51 cl51_0 hi52 re52 nk52 hi53 re53 nk53 cl53_0 hi54 re54 nk54 cl54_0 cl54_2 cl54_4 hi55 re55 nk55 hi56 re56 nk56 cl56_0 cl56_2 cl56_4 hi57 re57 nk57 hi58 re58 nk58 hi60 re60 nk60 hi61 re61 nk61 hi62 re62 nk62 cl62_0 cl62_2 hi63 re63 nk63 cl63_0 cl63_2 hi65 re65 nk65 cl65_0 hi66 re66 nk66 hi67 re67 nk67 cl67_0 hi68 re68 nk68 hi69 re69 nk69 cl69_0 hi70 re70 nk70 cl70_0 hi71 re71 nk71 cl71_0 cl71_2 hi72 re72 nk72 hi73 re73 nk73 cl73_0 hi74 re74 nk74 cl74_0 hi75 re75 nk75 cl75_0 cl75_2 hi76 re76 nk76 cl76_0 hi77 re77 nk77 cl77_0 hi78 re78 nk78 cl78_0 hi79 re79 nk79 cl79_0 hi80 re80 nk80 cl80_0 hi81 re81 nk81 cl81_0 hi83 re83 nk83 cl83_0 hi85 re85 nk85 cl85_0 hi86 re86 nk86 cl86_0 hi87 re87 nk87 cl87_0 hi88 re88 nk88 cl88_0 hi89 re89 nk89 cl89_0 hi90 re90 nk90 cl90_0 nk59 xt59 nk64 xt64 nk82 xt82 nk84 xt84 nk91 xt91
end Go.Proofs.Ytficdonjodadlaa
end
section
set_option linter.unusedVariables false
namespace Go.Ev
def FD (b : IV) : Bool := !((asL (fld b 0)).any fun x => decide (asI (fld x 1) < -1 ∨ ((asL (fld b 1)).length : Int) ≤ asI (fld x 1))) && !((List.range (asL (fld b 1)).length).any fun i => (asL (fld ((asL (fld b 1)).getD i .N) 1)).any fun x => decide (asI x < 0 ∨ ((asL (fld b 0)).length : Int) ≤ asI x ∨ (i : Int) ≤ asI (fld (el (asL (fld b 0)) (asI x)) 1)))
def frm (b : IV) (c : Int) : Int := asI (fld (el (asL (fld b 0)) c) 1)
def nEv (b : IV) : Nat := (asL (fld b 1)).length
def nCo (b : IV) : Nat := (asL (fld b 0)).length
def pre (b : IV) (e : Nat) : List IV := asL (fld ((asL (fld b 1)).getD e .N) 1)
theorem FD_con {b : IV} (h : FD b = true) {x : IV} (hx : x ∈ asL (fld b 0)) : -1 ≤ asI (fld x 1) ∧ asI (fld x 1) < (nEv b : Int) := by
  simp only [FD, Bool.and_eq_true, Bool.not_eq_true', List.any_eq_false, decide_eq_true_eq] at h
  have := h.1 x hx
  simp only [nEv]; omega
theorem FD_pre {b : IV} (h : FD b = true) {i : Nat} (hi : i < nEv b) {x : IV} (hx : x ∈ pre b i) : 0 ≤ asI x ∧ asI x < (nCo b : Int) ∧ frm b (asI x) < (i : Int) := by
  simp only [FD, Bool.and_eq_true, Bool.not_eq_true', List.any_eq_false, decide_eq_true_eq, List.any_eq_true, not_exists, not_and, not_or] at h
  have := h.2 i (List.mem_range.2 hi) x hx
  simp only [nCo, frm]; omega
theorem el_mem {l : List IV} {n : Int} (h0 : 0 ≤ n) (h : n < (l.length : Int)) : el l n ∈ l := by
  have : n.toNat < l.length := by omega
  have e : el l n = l[n.toNat] := by simp [el, List.getD, this]
  rw [e]; exact List.getElem_mem this
theorem FD_frm {b : IV} (h : FD b = true) {c : Int} (h0 : 0 ≤ c) (h1 : c < (nCo b : Int)) : -1 ≤ frm b c ∧ frm b c < (nEv b : Int) := FD_con h (el_mem h0 h1)
def edge (b : IV) (h g : Nat) : Prop := ∃ x ∈ pre b h, frm b (asI x) = (g : Int)
inductive Rch (b : IV) (e : Nat) : Nat → Prop
  | refl : Rch b e e
  | step {h g : Nat} (hr : Rch b e h) (hx : edge b h g) : Rch b e g
noncomputable instance (b : IV) (h g : Nat) : Decidable (edge b h g) := Classical.propDecidable _
noncomputable instance (b : IV) (h g : Nat) : Decidable (Rch b h g) := Classical.propDecidable _
noncomputable def hist (b : IV) (e : Int) (f : Nat) : Bool := decide (0 ≤ e) && decide (Rch b e.toNat f)
theorem hist_neg {b : IV} {e : Int} (h : e < 0) : hist b e = fun _ => false := by funext f; simp [hist]; omega
theorem rch_trans {b : IV} {e f g : Nat} (h1 : Rch b e f) (h2 : Rch b f g) : Rch b e g := by
  induction h2 with
  | refl => exact h1
  | step hr hx ih => exact .step ih hx
theorem rch_head {b : IV} {e g : Nat} : Rch b e g ↔ g = e ∨ ∃ h, edge b e h ∧ Rch b h g := by
  constructor
  · intro h
    induction h with
    | refl => exact .inl rfl
    | step hr hx ih =>
      rcases ih with rfl | ⟨h, h1, h2⟩
      · exact .inr ⟨_, hx, .refl⟩
      · exact .inr ⟨h, h1, .step h2 hx⟩
  · rintro (rfl | ⟨h, h1, h2⟩)
    · exact .refl
    · exact rch_trans (.step .refl h1) h2
theorem hist_nat {b : IV} {m g : Nat} : hist b (m : Int) g = decide (Rch b m g) := by simp [hist]
theorem hist_step {b : IV} {m g : Nat} : hist b (m : Int) g = (decide (g = m) || (pre b m).any fun x => hist b (frm b (asI x)) g) := by
  rw [hist_nat, Bool.eq_iff_iff, decide_eq_true_eq, rch_head]
  simp only [Bool.or_eq_true, decide_eq_true_eq, List.any_eq_true, hist, Bool.and_eq_true]
  constructor
  · rintro (h | ⟨h, ⟨x, hx, e⟩, h2⟩)
    · exact .inl h
    · exact .inr ⟨x, hx, by omega, by rw [e]; exact h2⟩
  · rintro (h | ⟨x, hx, h1, h2⟩)
    · exact .inl h
    · exact .inr ⟨_, ⟨x, hx, by omega⟩, h2⟩
def Clo (b : IV) (m : Nat) (S : Nat → Bool) : Prop := ∀ f, f < m → S f = true → ∀ g, Rch b f g → S g = true
theorem clo_le {b : IV} {m n : Nat} {S : Nat → Bool} (h : Clo b m S) (hn : n ≤ m) : Clo b n S := fun f hf => h f (by omega)
theorem clo_put {b : IV} {m : Nat} {S : Nat → Bool} (h : Clo b (m + 1) S) : Clo b m fun g => S g || decide (g = m) := by
  intro f hf hs g hr
  simp only [Bool.or_eq_true, decide_eq_true_eq] at hs ⊢
  rcases hs with hs | hs
  · exact .inl (h f (by omega) hs g hr)
  · omega
theorem clo_or {b : IV} {m : Nat} {S : Nat → Bool} {e : Int} (h : Clo b m S) : Clo b m fun g => S g || hist b e g := by
  intro f hf hs g hr
  simp only [Bool.or_eq_true] at hs ⊢
  rcases hs with hs | hs
  · exact .inl (h f hf hs g hr)
  · refine .inr ?_
    simp only [hist, Bool.and_eq_true, decide_eq_true_eq] at hs ⊢
    exact ⟨hs.1, rch_trans hs.2 hr⟩
theorem clo_has {b : IV} {m : Nat} {S : Nat → Bool} (h : Clo b (m + 1) S) (hs : S m = true) : (fun g => S g || hist b (m : Int) g) = S := by
  funext g
  rw [hist_nat]
  by_cases hr : Rch b m g
  · simp [h m (by omega) hs g hr]
  · simp [hr]
theorem clo_no {b : IV} {m : Nat} : Clo b m fun _ => false := by intro f _ hs; cases hs
def bl (n : Nat) (S : Nat → Bool) : List IV := (List.range n).map fun f => .B (S f)
theorem bl_len {n : Nat} {S : Nat → Bool} : (bl n S).length = n := by simp [bl]
theorem bl_get {n i : Nat} {S : Nat → Bool} (h : i < n) : (bl n S).getD i .N = .B (S i) := by simp [bl, List.getD, h]
theorem bl_set {n i : Nat} {S : Nat → Bool} : (bl n S).set i (.B true) = bl n fun g => S g || decide (g = i) := by
  apply List.ext_getElem?
  intro j
  simp only [bl, List.getElem?_set, List.getElem?_map, List.length_map, List.length_range]
  by_cases hij : i = j
  · subst hij
    by_cases hi : i < n
    · simp [hi]
    · simp [hi]
  · by_cases hj : j < n
    · simp [hij, hj, Ne.symm hij]
    · simp [hij, hj]
theorem bl_rep {n : Nat} : List.replicate n (.B false) = bl n fun _ => false := by simp [bl, List.map_const']
theorem foldS_next {α β ρ : Type} {g : α → β → α} {l : List β} : ∀ {a0 b : α}, (foldS (ρ := ρ) (fun a x => .next (g a x)) a0 l = .stop b) = (l.foldl g a0 = b) := by
  induction l with
  | nil => intro a0 b; simp [foldS]
  | cons x l ih => intro a0 b; simp only [foldS, List.foldl_cons]; exact ih
theorem foldl_or {β : Type} {q : β → Nat → Bool} {l : List β} : ∀ {S : Nat → Bool}, l.foldl (fun S k => fun g => S g || q k g) S = fun g => S g || l.any fun k => q k g := by
  induction l with
  | nil => intro S; simp
  | cons x l ih => intro S; rw [List.foldl_cons, ih]; funext g; simp [Bool.or_assoc]
theorem pre_edge {b : IV} {h : Nat} {F : Nat → Int} (hF : ∀ k, F k = frm b (asI ((pre b h).getD k .N))) (g : Nat) : ((List.range (pre b h).length).any fun k => decide (0 ≤ F k) && decide (g = (F k).toNat)) = decide (edge b h g) := by
  have e := any_range (l := pre b h) (p := fun x => decide (0 ≤ frm b (asI x)) && decide (g = (frm b (asI x)).toNat))
  simp only [hF]
  rw [e, Bool.eq_iff_iff, List.any_eq_true, decide_eq_true_eq, edge]
  constructor
  · rintro ⟨x, hx, h⟩
    simp only [Bool.and_eq_true, decide_eq_true_eq] at h
    exact ⟨x, hx, by omega⟩
  · rintro ⟨x, hx, h⟩
    exact ⟨x, hx, by simp only [Bool.and_eq_true, decide_eq_true_eq]; omega⟩
theorem edge_lt {b : IV} (hf : FD b = true) {h g : Nat} (hh : h < nEv b) (he : edge b h g) : g < h := by
  obtain ⟨x, hx, e⟩ := he
  have := (FD_pre hf hh hx).2.2
  omega
theorem rch_le {b : IV} (hf : FD b = true) {e g : Nat} (he : e < nEv b) (h : Rch b e g) : g ≤ e := by
  induction h with
  | refl => exact Nat.le_refl _
  | step hr hx ih => have := edge_lt hf (by omega) hx; omega
theorem past_fold {b : IV} (hf : FD b = true) {e : Nat} (he : e < nEv b) : (List.range (e + 1)).foldl (fun (S : Nat → Bool) i => fun g => S g || (S (e - i) && decide (edge b (e - i) g))) (fun g => decide (g = e)) = fun g => decide (Rch b e g) := by
  have key : ∀ m, m ≤ e + 1 → ∀ g, (List.range m).foldl (fun (S : Nat → Bool) i => fun g => S g || (S (e - i) && decide (edge b (e - i) g))) (fun g => decide (g = e)) g = true ↔ g = e ∨ ∃ h, e + 1 ≤ h + m ∧ Rch b e h ∧ edge b h g := by
    intro m
    induction m with
    | zero =>
      intro _ g
      simp only [List.range_zero, List.foldl_nil, decide_eq_true_eq]
      constructor
      · exact .inl
      · rintro (h | ⟨h, h1, h2, h3⟩)
        · exact h
        · have := rch_le hf he h2; omega
    | succ m ih =>
      intro hm g
      have ih' := ih (by omega)
      rw [List.range_succ, List.foldl_append, List.foldl_cons, List.foldl_nil]
      simp only [Bool.or_eq_true, Bool.and_eq_true, decide_eq_true_eq]
      rw [ih' g, ih' (e - m)]
      have hme : Rch b e (e - m) ↔ (e - m = e ∨ ∃ h, e + 1 ≤ h + m ∧ Rch b e h ∧ edge b h (e - m)) := by
        constructor
        · intro hr
          generalize hz : e - m = z at hr ⊢
          cases hr with
          | refl => exact .inl rfl
          | step hr hx =>
            rename_i h
            have h1 := rch_le hf he hr
            have h2 := edge_lt hf (by omega) hx
            exact .inr ⟨h, by omega, hr, hx⟩
        · rintro (h | ⟨h, _, h2, h3⟩)
          · rw [h]; exact .refl
          · exact .step h2 h3
      rw [← hme]
      constructor
      · rintro ((h | ⟨h, h1, h2, h3⟩) | ⟨h1, h2⟩)
        · exact .inl h
        · exact .inr ⟨h, by omega, h2, h3⟩
        · exact .inr ⟨e - m, by omega, h1, h2⟩
      · rintro (h | ⟨h, h1, h2, h3⟩)
        · exact .inl (.inl h)
        · by_cases hh : e + 1 ≤ h + m
          · exact .inl (.inr ⟨h, hh, h2, h3⟩)
          · have hle := rch_le hf he h2
            have : h = e - m := by omega
            subst this
            exact .inr ⟨h2, h3⟩
  funext g
  rw [Bool.eq_iff_iff, key (e + 1) (Nat.le_refl _) g, decide_eq_true_eq]
  constructor
  · rintro (h | ⟨h, _, h2, h3⟩)
    · subst h; exact .refl
    · exact .step h2 h3
  · intro h
    cases h with
    | refl => exact .inl rfl
    | step hr hx => exact .inr ⟨_, by omega, hr, hx⟩
attribute [go_sem] bl_len bl_get bl_set bl_rep foldS_next
theorem room_of {n b : Nat} (h : n ≤ 1000000) (hb : b ≤ 1000) : roomFor n b = true := by
  simp only [roomFor, Bool.and_eq_true, decide_eq_true_eq]
  have : n * b ≤ 1000000 * 1000 := Nat.mul_le_mul h hb
  omega
theorem memD {l : List IV} {i : Nat} (h : i < l.length) : l.getD i .N ∈ l := by
  have e : l.getD i .N = l[i] := by simp [List.getD, h]
  rw [e]; exact List.getElem_mem h
attribute [go_sem] Int.toNat_natCast Int.sub_zero Nat.zero_add Nat.add_zero
theorem asB_B {x : Bool} : asB (.B x) = x := (rfl)
theorem asI_I' {x : Int} : asI (.I x) = x := (rfl)
attribute [go_sem] asB_B asI_I' St.frozen St.putElem List.length_set List.length_replicate room_of Nat.reduceLeDiff List.nil_append
def SM (v u : IV) : Bool := decide ((asL v).length = (asL u).length) && !((List.range (asL v).length).any fun i => !decide (asI ((asL v).getD i .N) = asI ((asL u).getD i .N)))
theorem all_ret {β ρ : Type} {p : β → Prop} [DecidablePred p] {r : ρ} {l : List β} : (foldS (fun (_ : Unit) x => if p x then .next () else .ret r) () l = .ret r) = ((l.any fun x => !decide (p x)) = true) := by
  have e : (fun (_ : Unit) x => if p x then Stp.next () else Stp.ret r) = fun (_ : Unit) x => if ¬p x then Stp.ret r else Stp.next () := by funext _ x; by_cases h : p x <;> simp [h]
  rw [e, any_ret]; simp only [decide_not]
theorem all_stop {β ρ : Type} {p : β → Prop} [DecidablePred p] {r : ρ} {l : List β} {a : Unit} : (foldS (fun (_ : Unit) x => if p x then .next () else .ret r) () l = .stop a) = ((l.any fun x => !decide (p x)) = false) := by
  have e : (fun (_ : Unit) x => if p x then Stp.next () else Stp.ret r) = fun (_ : Unit) x => if ¬p x then Stp.ret r else Stp.next () := by funext _ x; by_cases h : p x <;> simp [h]
  rw [e, any_stop]; simp only [decide_not]
attribute [go_sem] all_ret all_stop
def CLf (b : IV) (X Y : Nat → Bool) : Bool := (List.range (asL (fld b 1)).length).any fun i => (List.range (asL (fld b 1)).length).any fun k => !decide (i = k) && X i && Y k && (asL (fld ((asL (fld b 1)).getD i .N) 1)).any fun x => (asL (fld ((asL (fld b 1)).getD k .N) 1)).any fun y => decide (asI y = asI x)
@[irreducible] def D0 : Nat := 1000010
theorem D0_ge : 1000003 ≤ D0 := by unfold D0; omega
def ExC (ext : CallF) : Prop := ∀ (b : IV) (p q r : Nat) (X Y : Nat → Bool), Ok b → FD b = true → (asL (fld b 1)).length ≤ 1000000 → ans ext 59 [.iv p 29 b, .iv q 51 (.L (bl (asL (fld b 1)).length X)), .iv r 51 (.L (bl (asL (fld b 1)).length Y))] 0 = some ([.one (.at (.bool (CLf b X Y)))], [4])
def mks (n : Nat) (S : Nat → Bool) : List IV := ((List.range n).filter S).map fun (i : Nat) => .I i
theorem mks_len {n : Nat} {S : Nat → Bool} : (mks n S).length ≤ n := by
  unfold mks; rw [List.length_map]; exact Nat.le_trans (List.length_filter_le _ _) (by simp)
theorem mks_succ {i : Nat} {S : Nat → Bool} : mks (i + 1) S = if S i = true then mks i S ++ [.I i] else mks i S := by
  unfold mks; rw [List.range_succ, List.filter_append, List.map_append]
  by_cases h : S i = true <;> simp [h]
theorem mks_zero {S : Nat → Bool} : mks 0 S = [] := (rfl)
attribute [go_sem] mks_zero mks_succ
def IN (b : IV) (e : Int) : Bool := FD b && decide (0 ≤ e) && decide (e < ((asL (fld b 1)).length : Int))
def LG (b : IV) : Bool := decide ((120 : Int) < ((asL (fld b 0)).length : Int)) || decide ((40 : Int) < ((asL (fld b 1)).length : Int)) || (asL (fld b 1)).any fun x => decide ((12 : Int) < ((asL (fld x 1)).length : Int) ∨ (40 : Int) < ((asL (fld x 2)).length : Int))
theorem SM_self {v : IV} : SM v v = true := by
  unfold SM; simp
theorem LG_ev {b : IV} (h : LG b = false) : (asL (fld b 1)).length ≤ 1000000 := by
  simp only [LG, Bool.or_eq_false_iff, decide_eq_false_iff_not] at h
  omega
attribute [go_sem] SM_self beq_self_eq_true
theorem ok_mks {n : Nat} {S : Nat → Bool} {c : Prop} [Decidable c] (h : n ≤ 1000000) : Ok (.L (if c then mks n S else [])) := by
  split
  · refine .L (Nat.le_trans mks_len (Nat.le_trans h (by unfold maxLen; omega))) (fun x hx => ?_)
    unfold mks at hx
    obtain ⟨i, hi, rfl⟩ := List.mem_map.1 hx
    have : i < n := by have := (List.mem_filter.1 hi).1; simpa using this
    exact .I (by omega)
  · exact .L (by simp) (by simp)
attribute [go_sem] ok_mks
end Go.Ev
end
section
set_option linter.unusedVariables false
namespace Go.Ev
def outI : Stp Unit Int → Int | .ret r => r | _ => 0
theorem outI_ret {r : Int} : outI (.ret r) = r := (rfl)
theorem outI_stop {a : Unit} : outI (.stop a) = 0 := (rfl)
attribute [go_sem] outI_ret outI_stop Int.natCast_pos
def arS (l : IV) (m : Int) (_ : Unit) (i : Nat) : Stp Unit Int :=
  if asI (fld ((asL l).getD i .N) 0) < 0 ∨ m ≤ asI (fld ((asL l).getD i .N) 0) then .ret 7
  else if 0 < i ∧ asI (fld ((asL l).getD i .N) 0) ≤ asI (fld ((asL l).getD (i - 1) .N) 0) then .ret 8
  else if asI (fld ((asL l).getD i .N) 1) < 1 ∨ 99 < asI (fld ((asL l).getD i .N) 1) then .ret 9 else .next ()
def AR (l : IV) (m : Int) : Int := outI (foldS (arS l m) () (List.range (asL l).length))
def VA (l : IV) (n : Int) : Bool := decide (((asL l).length : Int) = n) && !((asL l).any fun x => decide (asI x < 0 ∨ 1048576 < asI x))
def PL (p : IV) : Int := if asI (fld p 2) < 0 ∨ 1048576 < asI (fld p 2) then 1 else if (asI (fld p 1) < 0 ∨ 1048576 < asI (fld p 1)) ∨ (¬asI (fld p 2) = 0 ∧ asI (fld p 2) < asI (fld p 1)) then 10 else 0
def TR (t : IV) (m : Int) : Int := if asI (fld t 4) < 0 ∨ 9 < asI (fld t 4) then 1 else if AR (fld t 1) m = 0 then (if AR (fld t 2) m = 0 then AR (fld t 3) m else AR (fld t 2) m) else AR (fld t 1) m
theorem foldS_nil {α β ρ : Type} {f : α → β → Stp α ρ} {a : α} : foldS f a [] = .stop a := (rfl)
theorem foldS_cons {α β ρ : Type} {f : α → β → Stp α ρ} {a : α} {x : β} {l : List β} : foldS f a (x :: l) = match f a x with | .next b => foldS f b l | r => r := (rfl)
theorem VA_one {x : Int} : VA (.L [.I x]) 1 = !decide (x < 0 ∨ 1048576 < x) := by
  by_cases h : x < 0 ∨ 1048576 < x <;> simp [VA, asL, asI, h]
theorem ok_one {v : IV} (h : Ok v) : Ok (.L [.I (asI v)]) := .L (by simp [maxLen]) (fun x hx => by simp at hx; subst hx; exact .I (ok_int h))
theorem tr_fold {x : IV} {m : Int} : (if AR (fld x 1) m = 0 then (if AR (fld x 2) m = 0 then AR (fld x 3) m else AR (fld x 2) m) else AR (fld x 1) m) = outI (foldS (fun (_ : Unit) y => if AR y m = 0 then .next () else .ret (AR y m)) () [fld x 1, fld x 2, fld x 3]) := by
  simp only [foldS_cons, foldS_nil]
  by_cases h1 : AR (fld x 1) m = 0 <;> by_cases h2 : AR (fld x 2) m = 0 <;> by_cases h3 : AR (fld x 3) m = 0 <;> simp [h1, h2, h3, outI]
def nmOk (c i : Nat) : Bool := decide ((97 ≤ c ∧ c ≤ 122) ∨ c = 95 ∨ (0 < i ∧ ((48 ≤ c ∧ c ≤ 57) ∨ c = 46)))
def nmL (s : ByteArray) : Nat → Nat → Bool
  | 0, _ => true
  | b + 1, i => if i < s.size then (if nmOk (Utf8.decode s i).1 i = true then nmL s b (i + (Utf8.decode s i).2) else false) else true
def nmB (s : ByteArray) : Bool := if s.size < 1 ∨ 16 < s.size then false else nmL s s.size 0
def ExN (ext : CallF) : Prop := ∀ s : ByteArray, ans ext 64 [.str s] 0 = some ([.one (.at (.bool (nmB s)))], [4])
def AD (L : List IV) (s : ByteArray) : Int := if nmB s = true then (if (L.any fun x => asS x == s) = true then 6 else 0) else 5
theorem asS_S {s : ByteArray} : asS (.S s) = s := (rfl)
attribute [go_sem] asS_S List.length_append List.length_singleton
theorem fld_z {x : IV} {l : List IV} : fld (.A (x :: l)) 0 = x := (rfl)
theorem fld_s {x : IV} {l : List IV} {j : Nat} : fld (.A (x :: l)) (j + 1) = fld (.A l) j := by simp [fld]
attribute [go_sem] fld_z fld_s
def nms (l : IV) (i : Nat) : List IV := (List.range i).map fun k => .S (asS (fld ((asL l).getD k .N) 0))
theorem nms_zero {l : IV} : nms l 0 = [] := (rfl)
theorem nms_succ {l : IV} {i : Nat} : nms l (i + 1) = nms l i ++ [.S (asS (fld ((asL l).getD i .N) 0))] := by simp [nms, List.range_succ]
theorem nms_len {l : IV} {i : Nat} : (nms l i).length = i := by simp [nms]
attribute [go_sem] nms_zero nms_succ List.append_assoc
def plS (n : IV) (i : Nat) : Int := if AD (nms (fld n 1) i) (asS (fld ((asL (fld n 1)).getD i .N) 0)) = 0 then PL ((asL (fld n 1)).getD i .N) else AD (nms (fld n 1) i) (asS (fld ((asL (fld n 1)).getD i .N) 0))
def trS (n : IV) (i : Nat) : Int := if AD (nms (fld n 1) (asL (fld n 1)).length ++ nms (fld n 2) i) (asS (fld ((asL (fld n 2)).getD i .N) 0)) = 0 then TR ((asL (fld n 2)).getD i .N) (asL (fld n 1)).length else AD (nms (fld n 1) (asL (fld n 1)).length ++ nms (fld n 2) i) (asS (fld ((asL (fld n 2)).getD i .N) 0))
def ckP (n : IV) (_ : Unit) (i : Nat) : Stp Unit (Int × Int) := if plS n i = 0 then .next () else .ret (plS n i, (i : Int))
def ckT (n : IV) (_ : Unit) (i : Nat) : Stp Unit (Int × Int) := if trS n i = 0 then .next () else .ret (trS n i, ((asL (fld n 1)).length : Int) + (i : Int))
def NC2 (n : IV) : Int × Int := match foldS (ckT n) () (List.range (asL (fld n 2)).length) with | .ret r => r | _ => (0, 0)
def NC1 (n : IV) : Int × Int := match foldS (ckP n) () (List.range (asL (fld n 1)).length) with | .ret r => r | _ => NC2 n
def NC (n : IV) : Int × Int := if nmB (asS (fld n 0)) = true then (if ((asL (fld n 1)).length : Int) < 1 ∨ (24 : Int) < ((asL (fld n 1)).length : Int) ∨ (24 : Int) < ((asL (fld n 2)).length : Int) then (2, 0) else NC1 n) else (5, 0)
end Go.Ev
end
section
set_option linter.unusedVariables false
namespace Go.Ev
def CNf (b : IV) (X : Nat → Bool) (c : Int) : Bool := (List.range (asL (fld b 1)).length).any fun i => X i && (asL (fld ((asL (fld b 1)).getD i .N) 1)).any fun x => decide (asI x = c)
def ExU (ext : CallF) : Prop := ∀ (b : IV) (p q : Nat) (X : Nat → Bool) (c : Int), Ok b → FD b = true → (asL (fld b 1)).length ≤ 1000000 → ans ext 82 [.iv p 29 b, .iv q 51 (.L (bl (asL (fld b 1)).length X)), .int .i64 c] 0 = some ([.one (.at (.bool (CNf b X c)))], [4])
noncomputable def TG (b : IV) (c d : Int) : Bool := !decide (c = d) && !CNf b (hist b (frm b c)) d && !CNf b (hist b (frm b d)) c && !CLf b (hist b (frm b c)) (hist b (frm b d))
theorem CLf_neg1 {b : IV} {e : Int} {Y : Nat → Bool} (h : e < 0) : CLf b (hist b e) Y = false := by simp [CLf, hist_neg h]
theorem CLf_neg2 {b : IV} {e : Int} {Y : Nat → Bool} (h : e < 0) : CLf b Y (hist b e) = false := by simp [CLf, hist_neg h]
noncomputable def CS (b l : IV) : Bool := FD b && !((asL l).any fun x => decide (asI x < 0 ∨ ((asL (fld b 0)).length : Int) ≤ asI x)) && !((List.range (asL l).length).any fun i => (List.range i).any fun k => !TG b (asI ((asL l).getD i .N)) (asI ((asL l).getD k .N)))
theorem any_in {l : List IV} {m : Int} (h : (l.any fun x => decide (asI x < 0 ∨ m ≤ asI x)) = false) {i : Nat} (hi : i < l.length) : 0 ≤ asI (l.getD i .N) ∧ asI (l.getD i .N) < m := by
  have := List.any_eq_false.1 h _ (memD hi)
  simp only [decide_eq_true_eq, not_or] at this
  omega
theorem cut_take {l : List IV} {i : Nat} : cut l 0 i = l.take i := by simp [cut]
theorem take_len {l : List IV} {i : Nat} (h : i ≤ l.length) : (l.take i).length = i := by simp; omega
theorem take_get {l : List IV} {i k : Nat} (h : k < i) : (l.take i).getD k .N = l.getD k .N := by simp [List.getD, List.getElem?_take, h]
attribute [go_sem] bnd cut_take take_len take_get Nat.zero_le
end Go.Ev
end
section
set_option linter.unusedVariables false
namespace Go.Ev
theorem CLf_symm {b : IV} {X Y : Nat → Bool} : CLf b X Y = CLf b Y X := by
  have h : ∀ X Y : Nat → Bool, CLf b X Y = true → CLf b Y X = true := by
    intro X Y h
    simp only [CLf, List.any_eq_true, Bool.and_eq_true, Bool.not_eq_true', decide_eq_false_iff_not, decide_eq_true_eq, List.mem_range] at h ⊢
    obtain ⟨i, hi, k, hk, ⟨⟨h1, h2⟩, h3⟩, x, hx, y, hy, e⟩ := h
    exact ⟨k, hk, i, hi, ⟨⟨fun e => h1 e.symm, h3⟩, h2⟩, y, hy, x, hx, e.symm⟩
  rw [Bool.eq_iff_iff]; exact ⟨h X Y, h Y X⟩
theorem TG_symm {b : IV} {c d : Int} : TG b c d = TG b d c := by
  unfold TG
  rw [CLf_symm (X := hist b (frm b c))]
  have : decide (c = d) = decide (d = c) := by rw [decide_eq_decide]; exact ⟨Eq.symm, Eq.symm⟩
  rw [this]
  generalize decide (d = c) = a; generalize CNf b (hist b (frm b c)) d = x; generalize CNf b (hist b (frm b d)) c = y; generalize CLf b (hist b (frm b d)) (hist b (frm b c)) = z
  cases a <;> cases x <;> cases y <;> rfl
end Go.Ev
end
section
set_option linter.unusedVariables false
namespace Go.Ev
def VN (n : IV) : Bool := decide ((NC n).1 = 0)
def PN (n : IV) : Bool := !((asL (fld n 2)).any fun x => decide ((0 : Int) < ((asL (fld x 3)).length : Int) ∨ ¬asI (fld x 4) = 0)) && !((asL (fld n 1)).any fun x => !decide (asI (fld x 2) = 0)) && VN n
def ON (n : IV) : Bool := !((asL (fld n 2)).any fun x => [fld x 1, fld x 2].any fun y => (asL y).any fun z => !decide (asI (fld z 1) = 1)) && VN n
def tgs (l : IV) (i : Nat) : List IV := (List.range i).map fun k => .I (asI (fld ((asL l).getD k .N) 0))
theorem tgs_zero {l : IV} : tgs l 0 = [] := (rfl)
theorem tgs_succ {l : IV} {i : Nat} : tgs l (i + 1) = tgs l i ++ [.I (asI (fld ((asL l).getD i .N) 0))] := by simp [tgs, List.range_succ]
theorem tgs_len {l : IV} {i : Nat} : (tgs l i).length = i := by simp [tgs]
attribute [go_sem] tgs_zero tgs_succ
def KN (b : IV) (t : Int) (l : IV) : Bool := (asL (fld b 1)).any fun x => decide (asI (fld x 0) = t) && SM (fld x 1) l
end Go.Ev
end
section
set_option linter.unusedSimpArgs false
set_option linter.unusedVariables false
set_option maxRecDepth 100000
set_option maxHeartbeats 4000000
namespace Go.Proofs.Ytficdonjodadlaa
open Go.Ev Go.Proofs
theorem AU_has {p : Prop} (h : p := by
  repeat' (first | (with_reducible refine condLt (fun h h' => ?_) (fun h h' => ?_)) | (with_reducible refine condLe (fun h h' => ?_) (fun h h' => ?_)) | (with_reducible refine dop_val ?_) | (with_reducible refine YsLt (fun h h' => ?_) (fun h h' => ?_)) | (with_reducible refine YsLe (fun h h' => ?_) (fun h h' => ?_)) | (with_reducible refine condP (fun h => ?_) (fun h => ?_)) | (with_reducible refine condN (fun h => ?_) (fun h => ?_)) | (with_reducible refine condB (fun h => ?_) (fun h => ?_)) | (with_reducible refine condR (fun h => ?_) (fun h => ?_)) | (with_reducible refine YsB (fun h => ?_) (fun h => ?_)) | (with_reducible refine YsC (fun h => ?_) (fun h => ?_)) | (with_reducible refine Ys_ite (fun h => ?_) (fun h => ?_)) | (intro h) | (with_reducible refine draw_look (by kernel_rfl) (by kernel_rfl) ?_) | (simp (maxDischargeDepth := 9) only [go_sem, Nat.reduceMul, Nat.reduceAdd, Nat.reduceLeDiff, Int.reduceSub, Int.reduceNeg, Int.reduceLT, Int.reduceLE, Int.reduceEq, *]) | (exfalso; omega))) : p := h
theorem has_ans (ext : CallF) (k : Nat) (v : IV) (c : Int) (p : Nat) (hk : maxLen + (2) ≤ k) (hv : Ok v) : ans (tab.run ext k) 76 [.iv p 46 v, .int .i64 c] 0 = some ([.one (.at (.bool ((asL v).any fun x => decide (asI x = c))))], [4]) := by
  obtain ⟨k, rfl⟩ : ∃ k', k = k' + 1 := ⟨k - 1, by omega⟩
  have hk1 : maxLen < k := by omega
  have hk0 : 0 < k := by omega
  refine fn_run (fx := fx76) (m := 15) 17 rfl rfl rfl rfl (fun st hn hg hr => ?_)
  have g0 : st.get (.tmp 0) = .v (.a (.iv p 46 v)) := hg 0 (of_decide_eq_true rfl)
  have g1 : st.get (.tmp 1) = .v (.a (.int .i64 c)) := hg 1 (of_decide_eq_true rfl)
  clear hg hr
  rw [co76]
  simp only [Try.f76, Option.getD_some]
  simp (maxDischargeDepth := 9) only [go_sem, Nat.reduceMul, Nat.reduceAdd, Nat.reduceLeDiff, Int.reduceSub, Int.reduceNeg, Int.reduceLT, Int.reduceLE, Int.reduceEq, *]
  refine gen_st (fun s0 hg hr hn0 => ?_)
  have e1 := hg 1
  have e7 := hg 7
  have e8 := hg 8
  have e9 := hg 9
  clear hg hr
  simp only [go_sem, *] at hn0 e1 e7 e8 e9
  have hl := ok_len hv
  refine nr (runs_for (asL v) (fun (_ : Unit) x => if asI x = c then .ret true else .next ()) () 17 (fun i a => [(1, s0.get (.tmp 1)), (7, s0.get (.tmp 7)), (8, s0.get (.tmp 8)), (9, .v (.a (.int .i64 i)))]) (fun i a => []) (fun i a => True) (by omega) ?_ (trivial) ?_ ?_ ?_ ?_)
  · simp (maxDischargeDepth := 9) only [go_sem, Nat.reduceMul, Nat.reduceAdd, Nat.reduceLeDiff, Int.reduceSub, Int.reduceNeg, Int.reduceLT, Int.reduceLE, Int.reduceEq, *]
  · intro i a; simp (maxDischargeDepth := 9) only [go_sem, Nat.reduceMul, Nat.reduceAdd, Nat.reduceLeDiff, Int.reduceSub, Int.reduceNeg, Int.reduceLT, Int.reduceLE, Int.reduceEq, *]
  · intro i a; simp (maxDischargeDepth := 9) only [go_sem, Nat.reduceMul, Nat.reduceAdd, Nat.reduceLeDiff, Int.reduceSub, Int.reduceNeg, Int.reduceLT, Int.reduceLE, Int.reduceEq, *]
  · intro i x a s hx hi hI hS
    clear hn0 e9
    simp only [go_sem] at hS
    obtain ⟨f1, f7, f8, f9, hn⟩ := hS
    have hw := wrap_succ hi (ok_len hv)
    refine rn ?_
    simp (maxDischargeDepth := 9) only [go_sem, Nat.reduceMul, Nat.reduceAdd, Nat.reduceLeDiff, Int.reduceSub, Int.reduceNeg, Int.reduceLT, Int.reduceLE, Int.reduceEq, *]
    all_goals exact AU_has
  · intro a s hI hf hS
    clear hn0 e9
    simp only [go_sem] at hS
    obtain ⟨f1, f7, f8, f9, hn⟩ := hS
    try simp only [go_sem] at hf
    refine rn ?_
    simp (maxDischargeDepth := 9) only [go_sem, Nat.reduceMul, Nat.reduceAdd, Nat.reduceLeDiff, Int.reduceSub, Int.reduceNeg, Int.reduceLT, Int.reduceLE, Int.reduceEq, *]
    all_goals exact AU_has
theorem AU_rhas {p : Prop} (h : p := by
  repeat' (first | (with_reducible refine condLt (fun h h' => ?_) (fun h h' => ?_)) | (with_reducible refine condLe (fun h h' => ?_) (fun h h' => ?_)) | (with_reducible refine dop_val ?_) | (with_reducible refine YsLt (fun h h' => ?_) (fun h h' => ?_)) | (with_reducible refine YsLe (fun h h' => ?_) (fun h h' => ?_)) | (with_reducible refine condP (fun h => ?_) (fun h => ?_)) | (with_reducible refine condN (fun h => ?_) (fun h => ?_)) | (with_reducible refine condB (fun h => ?_) (fun h => ?_)) | (with_reducible refine condR (fun h => ?_) (fun h => ?_)) | (with_reducible refine YsB (fun h => ?_) (fun h => ?_)) | (with_reducible refine YsC (fun h => ?_) (fun h => ?_)) | (with_reducible refine Ys_ite (fun h => ?_) (fun h => ?_)) | (intro h) | (with_reducible refine draw_look (by kernel_rfl) (by kernel_rfl) ?_) | (simp (maxDischargeDepth := 9) only [go_sem, Nat.reduceMul, Nat.reduceAdd, Nat.reduceLeDiff, Int.reduceSub, Int.reduceNeg, Int.reduceLT, Int.reduceLE, Int.reduceEq, *]) | (exfalso; omega))) : p := h
theorem rhas_ans (ext : CallF) (k : Nat) (v : IV) (c : Int) (p : Nat) (hk : maxLen + (2) ≤ k) (hv : Ok v) : ans (tab.run ext k) 90 [.iv p 46 v, .int .i64 c] 0 = some ([.one (.at (.bool ((asL v).any fun x => decide (asI x = c))))], [4]) := by
  obtain ⟨k, rfl⟩ : ∃ k', k = k' + 1 := ⟨k - 1, by omega⟩
  have hk1 : maxLen < k := by omega
  have hk0 : 0 < k := by omega
  refine fn_run (fx := fx90) (m := 16) 18 rfl rfl rfl rfl (fun st hn hg hr => ?_)
  have g0 : st.get (.tmp 0) = .v (.a (.iv p 46 v)) := hg 0 (of_decide_eq_true rfl)
  have g1 : st.get (.tmp 1) = .v (.a (.int .i64 c)) := hg 1 (of_decide_eq_true rfl)
  clear hg hr
  rw [co90]
  simp only [Try.f90, Option.getD_some]
  rw [← any_range]
  simp (maxDischargeDepth := 9) only [go_sem, Nat.reduceMul, Nat.reduceAdd, Nat.reduceLeDiff, Int.reduceSub, Int.reduceNeg, Int.reduceLT, Int.reduceLE, Int.reduceEq, *]
  refine gen_st (fun s0 hg hr hn0 => ?_)
  have e0 := hg 0
  have e1 := hg 1
  have e5 := hg 5
  clear hg hr
  simp only [go_sem, *] at hn0 e0 e1 e5
  have hl := ok_len hv
  refine nr (runs_forN (asL v).length (fun (_ : Unit) i => if asI ((asL v).getD i .N) = c then .ret true else .next ()) () 18 (fun i a => [(0, s0.get (.tmp 0)), (1, s0.get (.tmp 1)), (5, .v (.a (.int .i64 i)))]) (fun i a => []) (fun i a => True) (by omega) ?_ (trivial) ?_ ?_ ?_ ?_)
  · simp (maxDischargeDepth := 9) only [go_sem, Nat.reduceMul, Nat.reduceAdd, Nat.reduceLeDiff, Int.reduceSub, Int.reduceNeg, Int.reduceLT, Int.reduceLE, Int.reduceEq, *]
  · intro i a; simp (maxDischargeDepth := 9) only [go_sem, Nat.reduceMul, Nat.reduceAdd, Nat.reduceLeDiff, Int.reduceSub, Int.reduceNeg, Int.reduceLT, Int.reduceLE, Int.reduceEq, *]
  · intro i a; simp (maxDischargeDepth := 9) only [go_sem, Nat.reduceMul, Nat.reduceAdd, Nat.reduceLeDiff, Int.reduceSub, Int.reduceNeg, Int.reduceLT, Int.reduceLE, Int.reduceEq, *]
  · intro i a s hi hI hS
    clear hn0 e5
    simp only [go_sem] at hS
    obtain ⟨f0, f1, f5, hn⟩ := hS
    have hw := wrap_succ hi (ok_len hv)
    refine rn ?_
    simp (maxDischargeDepth := 9) only [go_sem, Nat.reduceMul, Nat.reduceAdd, Nat.reduceLeDiff, Int.reduceSub, Int.reduceNeg, Int.reduceLT, Int.reduceLE, Int.reduceEq, *]
    all_goals exact AU_rhas
  · intro a s hI hf hS
    clear hn0 e5
    simp only [go_sem] at hS
    obtain ⟨f0, f1, f5, hn⟩ := hS
    try simp only [go_sem] at hf
    refine rn ?_
    simp (maxDischargeDepth := 9) only [go_sem, Nat.reduceMul, Nat.reduceAdd, Nat.reduceLeDiff, Int.reduceSub, Int.reduceNeg, Int.reduceLT, Int.reduceLE, Int.reduceEq, *]
    all_goals exact AU_rhas
theorem AU_share {p : Prop} (h : p := by
  repeat' (first | (with_reducible refine condLt (fun h h' => ?_) (fun h h' => ?_)) | (with_reducible refine condLe (fun h h' => ?_) (fun h h' => ?_)) | (with_reducible refine dop_val ?_) | (with_reducible refine YsLt (fun h h' => ?_) (fun h h' => ?_)) | (with_reducible refine YsLe (fun h h' => ?_) (fun h h' => ?_)) | (with_reducible refine condP (fun h => ?_) (fun h => ?_)) | (with_reducible refine condN (fun h => ?_) (fun h => ?_)) | (with_reducible refine condB (fun h => ?_) (fun h => ?_)) | (with_reducible refine condR (fun h => ?_) (fun h => ?_)) | (with_reducible refine YsB (fun h => ?_) (fun h => ?_)) | (with_reducible refine YsC (fun h => ?_) (fun h => ?_)) | (with_reducible refine Ys_ite (fun h => ?_) (fun h => ?_)) | (intro h) | (with_reducible refine draw_look (by kernel_rfl) (by kernel_rfl) ?_) | (simp (maxDischargeDepth := 9) only [go_sem, Nat.reduceMul, Nat.reduceAdd, Nat.reduceLeDiff, Int.reduceSub, Int.reduceNeg, Int.reduceLT, Int.reduceLE, Int.reduceEq, *, rhas_ans]) | (exfalso; omega))) : p := h
theorem share_ans (ext : CallF) (k : Nat) (v u : IV) (p q : Nat) (hk : maxLen + (4) ≤ k) (hv : Ok v) (hu : Ok u) : ans (tab.run ext k) 86 [.iv p 46 v, .iv q 46 u] 0 = some ([.one (.at (.bool ((asL v).any fun x => (asL u).any fun y => decide (asI y = asI x))))], [4]) := by
  obtain ⟨k, rfl⟩ : ∃ k', k = k' + 1 := ⟨k - 1, by omega⟩
  have hk1 : maxLen < k := by omega
  have hk0 : 0 < k := by omega
  have hk_0 : maxLen + (2) ≤ k := by omega
  refine fn_run (fx := fx86) (m := 16) 18 rfl rfl rfl rfl (fun st hn hg hr => ?_)
  have g0 : st.get (.tmp 0) = .v (.a (.iv p 46 v)) := hg 0 (of_decide_eq_true rfl)
  have g1 : st.get (.tmp 1) = .v (.a (.iv q 46 u)) := hg 1 (of_decide_eq_true rfl)
  clear hg hr
  rw [co86]
  simp only [Try.f86, Option.getD_some]
  rw [← any_range (p := fun x => (asL u).any fun y => decide (asI y = asI x))]
  simp (maxDischargeDepth := 9) only [go_sem, Nat.reduceMul, Nat.reduceAdd, Nat.reduceLeDiff, Int.reduceSub, Int.reduceNeg, Int.reduceLT, Int.reduceLE, Int.reduceEq, *, rhas_ans]
  refine gen_st (fun s0 hg hr hn0 => ?_)
  have e0 := hg 0
  have e1 := hg 1
  have e5 := hg 5
  clear hg hr
  simp only [go_sem, *] at hn0 e0 e1 e5
  have hl := ok_len hv
  refine nr (runs_forN (asL v).length (fun (_ : Unit) i => if ((asL u).any fun y => decide (asI y = asI ((asL v).getD i .N))) = true then .ret true else .next ()) () 18 (fun i a => [(0, s0.get (.tmp 0)), (1, s0.get (.tmp 1)), (5, .v (.a (.int .i64 i)))]) (fun i a => []) (fun i a => True) (by omega) ?_ (trivial) ?_ ?_ ?_ ?_)
  · simp (maxDischargeDepth := 9) only [go_sem, Nat.reduceMul, Nat.reduceAdd, Nat.reduceLeDiff, Int.reduceSub, Int.reduceNeg, Int.reduceLT, Int.reduceLE, Int.reduceEq, *, rhas_ans]
  · intro i a; simp (maxDischargeDepth := 9) only [go_sem, Nat.reduceMul, Nat.reduceAdd, Nat.reduceLeDiff, Int.reduceSub, Int.reduceNeg, Int.reduceLT, Int.reduceLE, Int.reduceEq, *, rhas_ans]
  · intro i a; simp (maxDischargeDepth := 9) only [go_sem, Nat.reduceMul, Nat.reduceAdd, Nat.reduceLeDiff, Int.reduceSub, Int.reduceNeg, Int.reduceLT, Int.reduceLE, Int.reduceEq, *, rhas_ans]
  · intro i a s hi hI hS
    clear hn0 e5
    simp only [go_sem] at hS
    obtain ⟨f0, f1, f5, hn⟩ := hS
    have hw := wrap_succ hi (ok_len hv)
    refine rn ?_
    simp (maxDischargeDepth := 9) only [go_sem, Nat.reduceMul, Nat.reduceAdd, Nat.reduceLeDiff, Int.reduceSub, Int.reduceNeg, Int.reduceLT, Int.reduceLE, Int.reduceEq, *, rhas_ans]
    all_goals exact AU_share
  · intro a s hI hf hS
    clear hn0 e5
    simp only [go_sem] at hS
    obtain ⟨f0, f1, f5, hn⟩ := hS
    try simp only [go_sem] at hf
    refine rn ?_
    simp (maxDischargeDepth := 9) only [go_sem, Nat.reduceMul, Nat.reduceAdd, Nat.reduceLeDiff, Int.reduceSub, Int.reduceNeg, Int.reduceLT, Int.reduceLE, Int.reduceEq, *, rhas_ans]
    all_goals exact AU_share
end Go.Proofs.Ytficdonjodadlaa
end
section
set_option linter.unusedSimpArgs false
set_option linter.unusedVariables false
set_option maxRecDepth 100000
set_option maxHeartbeats 4000000
namespace Go.Proofs.Ytficdonjodadlaa
open Go.Ev Go.Proofs
theorem AU_founded {p : Prop} (h : p := by
  repeat' (first | (with_reducible refine condLt (fun h h' => ?_) (fun h h' => ?_)) | (with_reducible refine condLe (fun h h' => ?_) (fun h h' => ?_)) | (with_reducible refine dop_val ?_) | (with_reducible refine YsLt (fun h h' => ?_) (fun h h' => ?_)) | (with_reducible refine YsLe (fun h h' => ?_) (fun h h' => ?_)) | (with_reducible refine condP (fun h => ?_) (fun h => ?_)) | (with_reducible refine condN (fun h => ?_) (fun h => ?_)) | (with_reducible refine condB (fun h => ?_) (fun h => ?_)) | (with_reducible refine condR (fun h => ?_) (fun h => ?_)) | (with_reducible refine YsB (fun h => ?_) (fun h => ?_)) | (with_reducible refine YsC (fun h => ?_) (fun h => ?_)) | (with_reducible refine Ys_ite (fun h => ?_) (fun h => ?_)) | (intro h) | (with_reducible refine draw_look (by kernel_rfl) (by kernel_rfl) ?_) | (simp (maxDischargeDepth := 9) only [go_sem, Nat.reduceMul, Nat.reduceAdd, Nat.reduceLeDiff, Int.reduceSub, Int.reduceNeg, Int.reduceLT, Int.reduceLE, Int.reduceEq, *]) | (exfalso; omega))) : p := h
theorem founded_ans (ext : CallF) (k : Nat) (b : IV) (p : Nat) (hk : maxLen + (2) ≤ k) (hb : Ok b) : ans (tab.run ext k) 54 [.iv p 29 b] 3 = some ([.one (.at (.bool (FD b)))], [4]) := by
  obtain ⟨k, rfl⟩ : ∃ k', k = k' + 1 := ⟨k - 1, by omega⟩
  have hk1 : maxLen < k := by omega
  have hk0 : 0 < k := by omega
  refine fn_run (fx := fx54) (m := 63) 64 rfl rfl rfl rfl (fun st hn hg hr => ?_)
  have g0 : st.get (.tmp 0) = .v (.a (.iv p 29 b)) := hg 0 (of_decide_eq_true rfl)
  have r0 := hr 0
  have r1 := hr 1
  have r2 := hr 2
  clear hg hr
  rw [co54]
  simp only [Try.f54, Option.getD_some]
  unfold FD
  simp (maxDischargeDepth := 9) only [go_sem, Nat.reduceMul, Nat.reduceAdd, Nat.reduceLeDiff, Int.reduceSub, Int.reduceNeg, Int.reduceLT, Int.reduceLE, Int.reduceEq, *]
  refine gen_st (fun s0 hg hr hn0 => ?_)
  have e1 := hg 1
  have e10 := hg 10
  have e11 := hg 11
  have e12 := hg 12
  have q0 := hr 0
  clear hg hr
  simp only [go_sem, *] at hn0 e1 e10 e11 e12 q0
  have hl0 := ok_len (ok_fld (j := 0) hb)
  refine nr (runs_for (asL (fld b 0)) (fun (_ : Unit) x => if asI (fld x 1) < -1 ∨ ((asL (fld b 1)).length : Int) ≤ asI (fld x 1) then .ret false else .next ()) () 64 (fun i a => [(1, s0.get (.tmp 1)), (10, s0.get (.tmp 10)), (11, s0.get (.tmp 11)), (12, .v (.a (.int .i64 i)))]) (fun i a => [(0, s0.row 0)]) (fun i a => True) (by omega) ?_ (trivial) ?_ ?_ ?_ ?_)
  · simp (maxDischargeDepth := 9) only [go_sem, Nat.reduceMul, Nat.reduceAdd, Nat.reduceLeDiff, Int.reduceSub, Int.reduceNeg, Int.reduceLT, Int.reduceLE, Int.reduceEq, *]
  · intro i a; simp (maxDischargeDepth := 9) only [go_sem, Nat.reduceMul, Nat.reduceAdd, Nat.reduceLeDiff, Int.reduceSub, Int.reduceNeg, Int.reduceLT, Int.reduceLE, Int.reduceEq, *]
  · intro i a; simp (maxDischargeDepth := 9) only [go_sem, Nat.reduceMul, Nat.reduceAdd, Nat.reduceLeDiff, Int.reduceSub, Int.reduceNeg, Int.reduceLT, Int.reduceLE, Int.reduceEq, *]
  · intro i x a s hx hi hI hS
    clear hn0 e12
    simp only [go_sem] at hS
    obtain ⟨f1, f10, f11, f12, m0, hn⟩ := hS
    have hw := wrap_succ hi (ok_len (ok_fld hb))
    refine rn ?_
    simp (maxDischargeDepth := 9) only [go_sem, Nat.reduceMul, Nat.reduceAdd, Nat.reduceLeDiff, Int.reduceSub, Int.reduceNeg, Int.reduceLT, Int.reduceLE, Int.reduceEq, *]
    all_goals exact AU_founded
  · intro a s hI hf hS
    clear hn0 e12
    simp only [go_sem] at hS
    obtain ⟨f1, f10, f11, f12, m0, hn⟩ := hS
    try simp only [go_sem] at hf
    refine rn ?_
    simp (maxDischargeDepth := 9) only [go_sem, Nat.reduceMul, Nat.reduceAdd, Nat.reduceLeDiff, Int.reduceSub, Int.reduceNeg, Int.reduceLT, Int.reduceLE, Int.reduceEq, *]
    refine gen_st (fun s0 hg hr hn0 => ?_)
    have e1 := hg 1
    have e29 := hg 29
    have e30 := hg 30
    have e31 := hg 31
    have q0 := hr 0
    clear hg hr
    simp only [go_sem, *] at hn0 e1 e29 e30 e31 q0
    have hl1 := ok_len (ok_fld (j := 1) hb)
    refine nr (runs_forN (asL (fld b 1)).length (fun (_ : Unit) i => if ((asL (fld ((asL (fld b 1)).getD i .N) 1)).any fun x => decide (asI x < 0 ∨ ((asL (fld b 0)).length : Int) ≤ asI x ∨ (i : Int) ≤ asI (fld (el (asL (fld b 0)) (asI x)) 1))) = true then .ret false else .next ()) () 64 (fun i a => [(1, s0.get (.tmp 1)), (29, s0.get (.tmp 29)), (30, s0.get (.tmp 30)), (31, .v (.a (.int .i64 i)))]) (fun i a => [(0, s0.row 0)]) (fun i a => True) (by omega) ?_ (trivial) ?_ ?_ ?_ ?_)
    · simp (maxDischargeDepth := 9) only [go_sem, Nat.reduceMul, Nat.reduceAdd, Nat.reduceLeDiff, Int.reduceSub, Int.reduceNeg, Int.reduceLT, Int.reduceLE, Int.reduceEq, *]
    · intro i a; simp (maxDischargeDepth := 9) only [go_sem, Nat.reduceMul, Nat.reduceAdd, Nat.reduceLeDiff, Int.reduceSub, Int.reduceNeg, Int.reduceLT, Int.reduceLE, Int.reduceEq, *]
    · intro i a; simp (maxDischargeDepth := 9) only [go_sem, Nat.reduceMul, Nat.reduceAdd, Nat.reduceLeDiff, Int.reduceSub, Int.reduceNeg, Int.reduceLT, Int.reduceLE, Int.reduceEq, *]
    · intro i a s hi hI hS
      clear hn0 e31
      simp only [go_sem] at hS
      obtain ⟨f1, f29, f30, f31, m0, hn⟩ := hS
      have hw := wrap_succ hi (ok_len (ok_fld hb))
      refine rn ?_
      simp (maxDischargeDepth := 9) only [go_sem, Nat.reduceMul, Nat.reduceAdd, Nat.reduceLeDiff, Int.reduceSub, Int.reduceNeg, Int.reduceLT, Int.reduceLE, Int.reduceEq, *]
      refine gen_st (fun s0 hg hr hn0 => ?_)
      have e1 := hg 1
      have e5 := hg 5
      have e6 := hg 6
      have e29 := hg 29
      have e30 := hg 30
      have e31 := hg 31
      have e32 := hg 32
      have e33 := hg 33
      have e34 := hg 34
      have e35 := hg 35
      have e36 := hg 36
      have e37 := hg 37
      have e38 := hg 38
      have e39 := hg 39
      have q0 := hr 0
      have q2 := hr 2
      clear hg hr
      simp only [go_sem, *] at hn0 e1 e5 e6 e29 e30 e31 e32 e33 e34 e35 e36 e37 e38 e39 q0 q2
      have hl2 := ok_len (ok_fld (j := 1) (ok_getD (i := i) (ok_fld (j := 1) hb)))
      refine nr (runs_for (asL (fld ((asL (fld b 1)).getD i .N) 1)) (fun (_ : Unit) x => if asI x < 0 ∨ ((asL (fld b 0)).length : Int) ≤ asI x ∨ (i : Int) ≤ asI (fld (el (asL (fld b 0)) (asI x)) 1) then .ret false else .next ()) () 64 (fun i2 a => [(1, s0.get (.tmp 1)), (5, s0.get (.tmp 5)), (6, s0.get (.tmp 6)), (29, s0.get (.tmp 29)), (30, s0.get (.tmp 30)), (31, s0.get (.tmp 31)), (32, s0.get (.tmp 32)), (33, s0.get (.tmp 33)), (34, s0.get (.tmp 34)), (35, s0.get (.tmp 35)), (36, s0.get (.tmp 36)), (37, s0.get (.tmp 37)), (38, s0.get (.tmp 38)), (39, .v (.a (.int .i64 i2)))]) (fun i2 a => [(0, s0.row 0), (2, s0.row 2)]) (fun i2 a => True) (by omega) ?_ (trivial) ?_ ?_ ?_ ?_)
      · simp (maxDischargeDepth := 9) only [go_sem, Nat.reduceMul, Nat.reduceAdd, Nat.reduceLeDiff, Int.reduceSub, Int.reduceNeg, Int.reduceLT, Int.reduceLE, Int.reduceEq, *]
      · intro i a; simp (maxDischargeDepth := 9) only [go_sem, Nat.reduceMul, Nat.reduceAdd, Nat.reduceLeDiff, Int.reduceSub, Int.reduceNeg, Int.reduceLT, Int.reduceLE, Int.reduceEq, *]
      · intro i a; simp (maxDischargeDepth := 9) only [go_sem, Nat.reduceMul, Nat.reduceAdd, Nat.reduceLeDiff, Int.reduceSub, Int.reduceNeg, Int.reduceLT, Int.reduceLE, Int.reduceEq, *]
      · intro i2 x a s hx hi hI hS
        clear hn0 e39
        simp only [go_sem] at hS
        obtain ⟨f1, f5, f6, f29, f30, f31, f32, f33, f34, f35, f36, f37, f38, f39, m0, m2, hn⟩ := hS
        have hw := wrap_succ hi (hl2)
        refine rn ?_
        simp (maxDischargeDepth := 9) only [go_sem, Nat.reduceMul, Nat.reduceAdd, Nat.reduceLeDiff, Int.reduceSub, Int.reduceNeg, Int.reduceLT, Int.reduceLE, Int.reduceEq, *]
        all_goals exact AU_founded
      · intro a s hI hf hS
        clear hn0 e39
        simp only [go_sem] at hS
        obtain ⟨f1, f5, f6, f29, f30, f31, f32, f33, f34, f35, f36, f37, f38, f39, m0, m2, hn⟩ := hS
        try simp only [go_sem] at hf
        refine rn ?_
        simp (maxDischargeDepth := 9) only [go_sem, Nat.reduceMul, Nat.reduceAdd, Nat.reduceLeDiff, Int.reduceSub, Int.reduceNeg, Int.reduceLT, Int.reduceLE, Int.reduceEq, *]
        all_goals exact AU_founded
    · intro a s hI hf hS
      clear hn0 e31
      simp only [go_sem] at hS
      obtain ⟨f1, f29, f30, f31, m0, hn⟩ := hS
      try simp only [go_sem] at hf
      refine rn ?_
      simp (maxDischargeDepth := 9) only [go_sem, Nat.reduceMul, Nat.reduceAdd, Nat.reduceLeDiff, Int.reduceSub, Int.reduceNeg, Int.reduceLT, Int.reduceLE, Int.reduceEq, *]
      all_goals exact AU_founded
end Go.Proofs.Ytficdonjodadlaa
end
section
set_option linter.unusedSimpArgs false
set_option linter.unusedVariables false
set_option maxRecDepth 100000
set_option maxHeartbeats 4000000
namespace Go.Proofs.Ytficdonjodadlaa
open Go.Ev Go.Proofs
theorem AU_rfounded {p : Prop} (h : p := by
  repeat' (first | (with_reducible refine condLt (fun h h' => ?_) (fun h h' => ?_)) | (with_reducible refine condLe (fun h h' => ?_) (fun h h' => ?_)) | (with_reducible refine dop_val ?_) | (with_reducible refine YsLt (fun h h' => ?_) (fun h h' => ?_)) | (with_reducible refine YsLe (fun h h' => ?_) (fun h h' => ?_)) | (with_reducible refine condP (fun h => ?_) (fun h => ?_)) | (with_reducible refine condN (fun h => ?_) (fun h => ?_)) | (with_reducible refine condB (fun h => ?_) (fun h => ?_)) | (with_reducible refine condR (fun h => ?_) (fun h => ?_)) | (with_reducible refine YsB (fun h => ?_) (fun h => ?_)) | (with_reducible refine YsC (fun h => ?_) (fun h => ?_)) | (with_reducible refine Ys_ite (fun h => ?_) (fun h => ?_)) | (intro h) | (with_reducible refine draw_look (by kernel_rfl) (by kernel_rfl) ?_) | (simp (maxDischargeDepth := 9) only [go_sem, Nat.reduceMul, Nat.reduceAdd, Nat.reduceLeDiff, Int.reduceSub, Int.reduceNeg, Int.reduceLT, Int.reduceLE, Int.reduceEq, *]) | (exfalso; omega))) : p := h
theorem rfounded_ans (ext : CallF) (k : Nat) (b : IV) (p : Nat) (hk : maxLen + (2) ≤ k) (hb : Ok b) : ans (tab.run ext k) 56 [.iv p 29 b] 1 = some ([.one (.at (.bool (FD b)))], [4]) := by
  obtain ⟨k, rfl⟩ : ∃ k', k = k' + 1 := ⟨k - 1, by omega⟩
  have hk1 : maxLen < k := by omega
  have hk0 : 0 < k := by omega
  refine fn_run (fx := fx56) (m := 78) 79 rfl rfl rfl rfl (fun st hn hg hr => ?_)
  have g0 : st.get (.tmp 0) = .v (.a (.iv p 29 b)) := hg 0 (of_decide_eq_true rfl)
  have r0 := hr 0
  clear hg hr
  rw [co56]
  simp only [Try.f56, Option.getD_some]
  unfold FD
  simp (maxDischargeDepth := 9) only [go_sem, Nat.reduceMul, Nat.reduceAdd, Nat.reduceLeDiff, Int.reduceSub, Int.reduceNeg, Int.reduceLT, Int.reduceLE, Int.reduceEq, *]
  refine gen_st (fun s0 hg hr hn0 => ?_)
  have e1 := hg 1
  have e3 := hg 3
  have q0 := hr 0
  clear hg hr
  simp only [go_sem, *] at hn0 e1 e3 q0
  have hl0 := ok_len (ok_fld (j := 0) hb)
  refine nr (runs_for (asL (fld b 0)) (fun (_ : Unit) x => if asI (fld x 1) < -1 ∨ ((asL (fld b 1)).length : Int) ≤ asI (fld x 1) then .ret false else .next ()) () 79 (fun i a => [(1, s0.get (.tmp 1)), (3, .v (.a (.int .i64 i)))]) (fun i a => [(0, s0.row 0)]) (fun i a => True) (by omega) ?_ (trivial) ?_ ?_ ?_ ?_)
  · simp (maxDischargeDepth := 9) only [go_sem, Nat.reduceMul, Nat.reduceAdd, Nat.reduceLeDiff, Int.reduceSub, Int.reduceNeg, Int.reduceLT, Int.reduceLE, Int.reduceEq, *]
  · intro i a; simp (maxDischargeDepth := 9) only [go_sem, Nat.reduceMul, Nat.reduceAdd, Nat.reduceLeDiff, Int.reduceSub, Int.reduceNeg, Int.reduceLT, Int.reduceLE, Int.reduceEq, *]
  · intro i a; simp (maxDischargeDepth := 9) only [go_sem, Nat.reduceMul, Nat.reduceAdd, Nat.reduceLeDiff, Int.reduceSub, Int.reduceNeg, Int.reduceLT, Int.reduceLE, Int.reduceEq, *]
  · intro i x a s hx hi hI hS
    clear hn0 e3
    simp only [go_sem] at hS
    obtain ⟨f1, f3, m0, hn⟩ := hS
    have hw := wrap_succ hi (ok_len (ok_fld hb))
    refine rn ?_
    simp (maxDischargeDepth := 9) only [go_sem, Nat.reduceMul, Nat.reduceAdd, Nat.reduceLeDiff, Int.reduceSub, Int.reduceNeg, Int.reduceLT, Int.reduceLE, Int.reduceEq, *]
    all_goals exact AU_rfounded
  · intro a s hI hf hS
    clear hn0 e3
    simp only [go_sem] at hS
    obtain ⟨f1, f3, m0, hn⟩ := hS
    try simp only [go_sem] at hf
    refine rn ?_
    simp (maxDischargeDepth := 9) only [go_sem, Nat.reduceMul, Nat.reduceAdd, Nat.reduceLeDiff, Int.reduceSub, Int.reduceNeg, Int.reduceLT, Int.reduceLE, Int.reduceEq, *]
    refine gen_st (fun s0 hg hr hn0 => ?_)
    have e1 := hg 1
    have e4 := hg 4
    have q0 := hr 0
    clear hg hr
    simp only [go_sem, *] at hn0 e1 e4 q0
    have hl1 := ok_len (ok_fld (j := 1) hb)
    refine nr (runs_forN (asL (fld b 1)).length (fun (_ : Unit) i => if ((asL (fld ((asL (fld b 1)).getD i .N) 1)).any fun x => decide (asI x < 0 ∨ ((asL (fld b 0)).length : Int) ≤ asI x ∨ (i : Int) ≤ asI (fld (el (asL (fld b 0)) (asI x)) 1))) = true then .ret false else .next ()) () 79 (fun i a => [(1, s0.get (.tmp 1)), (4, .v (.a (.int .i64 i)))]) (fun i a => [(0, s0.row 0)]) (fun i a => True) (by omega) ?_ (trivial) ?_ ?_ ?_ ?_)
    · simp (maxDischargeDepth := 9) only [go_sem, Nat.reduceMul, Nat.reduceAdd, Nat.reduceLeDiff, Int.reduceSub, Int.reduceNeg, Int.reduceLT, Int.reduceLE, Int.reduceEq, *]
    · intro i a; simp (maxDischargeDepth := 9) only [go_sem, Nat.reduceMul, Nat.reduceAdd, Nat.reduceLeDiff, Int.reduceSub, Int.reduceNeg, Int.reduceLT, Int.reduceLE, Int.reduceEq, *]
    · intro i a; simp (maxDischargeDepth := 9) only [go_sem, Nat.reduceMul, Nat.reduceAdd, Nat.reduceLeDiff, Int.reduceSub, Int.reduceNeg, Int.reduceLT, Int.reduceLE, Int.reduceEq, *]
    · intro i a s hi hI hS
      clear hn0 e4
      simp only [go_sem] at hS
      obtain ⟨f1, f4, m0, hn⟩ := hS
      have hw := wrap_succ hi (ok_len (ok_fld hb))
      refine rn ?_
      simp (maxDischargeDepth := 9) only [go_sem, Nat.reduceMul, Nat.reduceAdd, Nat.reduceLeDiff, Int.reduceSub, Int.reduceNeg, Int.reduceLT, Int.reduceLE, Int.reduceEq, *]
      refine gen_st (fun s0 hg hr hn0 => ?_)
      have e1 := hg 1
      have e4 := hg 4
      have e33 := hg 33
      have e34 := hg 34
      have e35 := hg 35
      have e36 := hg 36
      have e37 := hg 37
      have e5 := hg 5
      have q0 := hr 0
      clear hg hr
      simp only [go_sem, *] at hn0 e1 e4 e33 e34 e35 e36 e37 e5 q0
      have hl2 := ok_len (ok_fld (j := 1) (ok_getD (i := i) (ok_fld (j := 1) hb)))
      refine nr (runs_for (asL (fld ((asL (fld b 1)).getD i .N) 1)) (fun (_ : Unit) x => if asI x < 0 ∨ ((asL (fld b 0)).length : Int) ≤ asI x ∨ (i : Int) ≤ asI (fld (el (asL (fld b 0)) (asI x)) 1) then .ret false else .next ()) () 79 (fun i2 a => [(1, s0.get (.tmp 1)), (4, s0.get (.tmp 4)), (33, s0.get (.tmp 33)), (34, s0.get (.tmp 34)), (35, s0.get (.tmp 35)), (36, s0.get (.tmp 36)), (37, s0.get (.tmp 37)), (5, .v (.a (.int .i64 i2)))]) (fun i2 a => [(0, s0.row 0)]) (fun i2 a => True) (by omega) ?_ (trivial) ?_ ?_ ?_ ?_)
      · simp (maxDischargeDepth := 9) only [go_sem, Nat.reduceMul, Nat.reduceAdd, Nat.reduceLeDiff, Int.reduceSub, Int.reduceNeg, Int.reduceLT, Int.reduceLE, Int.reduceEq, *]
      · intro i a; simp (maxDischargeDepth := 9) only [go_sem, Nat.reduceMul, Nat.reduceAdd, Nat.reduceLeDiff, Int.reduceSub, Int.reduceNeg, Int.reduceLT, Int.reduceLE, Int.reduceEq, *]
      · intro i a; simp (maxDischargeDepth := 9) only [go_sem, Nat.reduceMul, Nat.reduceAdd, Nat.reduceLeDiff, Int.reduceSub, Int.reduceNeg, Int.reduceLT, Int.reduceLE, Int.reduceEq, *]
      · intro i2 x a s hx hi hI hS
        clear hn0 e5
        simp only [go_sem] at hS
        obtain ⟨f1, f4, f33, f34, f35, f36, f37, f5, m0, hn⟩ := hS
        have hw := wrap_succ hi (hl2)
        refine rn ?_
        simp (maxDischargeDepth := 9) only [go_sem, Nat.reduceMul, Nat.reduceAdd, Nat.reduceLeDiff, Int.reduceSub, Int.reduceNeg, Int.reduceLT, Int.reduceLE, Int.reduceEq, *]
        all_goals exact AU_rfounded
      · intro a s hI hf hS
        clear hn0 e5
        simp only [go_sem] at hS
        obtain ⟨f1, f4, f33, f34, f35, f36, f37, f5, m0, hn⟩ := hS
        try simp only [go_sem] at hf
        refine rn ?_
        simp (maxDischargeDepth := 9) only [go_sem, Nat.reduceMul, Nat.reduceAdd, Nat.reduceLeDiff, Int.reduceSub, Int.reduceNeg, Int.reduceLT, Int.reduceLE, Int.reduceEq, *]
        all_goals exact AU_rfounded
    · intro a s hI hf hS
      clear hn0 e4
      simp only [go_sem] at hS
      obtain ⟨f1, f4, m0, hn⟩ := hS
      try simp only [go_sem] at hf
      refine rn ?_
      simp (maxDischargeDepth := 9) only [go_sem, Nat.reduceMul, Nat.reduceAdd, Nat.reduceLeDiff, Int.reduceSub, Int.reduceNeg, Int.reduceLT, Int.reduceLE, Int.reduceEq, *]
      all_goals exact AU_rfounded
theorem inside_ans (ext : CallF) (k : Nat) (b : IV) (e : Int) (p : Nat) (hk : maxLen + (4) ≤ k) (hb : Ok b) : ans (tab.run ext k) 58 [.iv p 29 b, .int .i64 e] 1 = some ([.one (.at (.bool (IN b e)))], [4]) := by
  obtain ⟨k, rfl⟩ : ∃ k', k = k' + 1 := ⟨k - 1, by omega⟩
  have hk1 : maxLen < k := by omega
  have hk0 : 0 < k := by omega
  have hk_0 : maxLen + (2) ≤ k := by omega
  refine fn_run (fx := fx58) (m := 16) 18 rfl rfl rfl rfl (fun st hn hg hr => ?_)
  have g0 : st.get (.tmp 0) = .v (.a (.iv p 29 b)) := hg 0 (of_decide_eq_true rfl)
  have g1 : st.get (.tmp 1) = .v (.a (.int .i64 e)) := hg 1 (of_decide_eq_true rfl)
  have r0 := hr 0
  clear hg hr
  rw [co58]
  simp only [Try.f58, Option.getD_some]
  unfold IN
  simp (maxDischargeDepth := 9) only [go_sem, Nat.reduceMul, Nat.reduceAdd, Nat.reduceLeDiff, Int.reduceSub, Int.reduceNeg, Int.reduceLT, Int.reduceLE, Int.reduceEq, *, founded_ans]
  repeat' (first | (with_reducible refine condLt (fun h h' => ?_) (fun h h' => ?_)) | (with_reducible refine condLe (fun h h' => ?_) (fun h h' => ?_)) | (with_reducible refine dop_val ?_) | (with_reducible refine YsLt (fun h h' => ?_) (fun h h' => ?_)) | (with_reducible refine YsLe (fun h h' => ?_) (fun h h' => ?_)) | (with_reducible refine condP (fun h => ?_) (fun h => ?_)) | (with_reducible refine condN (fun h => ?_) (fun h => ?_)) | (with_reducible refine condB (fun h => ?_) (fun h => ?_)) | (with_reducible refine condR (fun h => ?_) (fun h => ?_)) | (with_reducible refine YsB (fun h => ?_) (fun h => ?_)) | (with_reducible refine YsC (fun h => ?_) (fun h => ?_)) | (with_reducible refine Ys_ite (fun h => ?_) (fun h => ?_)) | (intro h) | (with_reducible refine draw_look (by kernel_rfl) (by kernel_rfl) ?_) | (simp (maxDischargeDepth := 9) only [go_sem, Nat.reduceMul, Nat.reduceAdd, Nat.reduceLeDiff, Int.reduceSub, Int.reduceNeg, Int.reduceLT, Int.reduceLE, Int.reduceEq, *, founded_ans]) | (exfalso; omega))
end Go.Proofs.Ytficdonjodadlaa
end
section
set_option linter.unusedSimpArgs false
set_option linter.unusedVariables false
set_option maxRecDepth 100000
set_option maxHeartbeats 4000000
namespace Go.Proofs.Ytficdonjodadlaa
open Go.Ev Go.Proofs
theorem AU_lsame {p : Prop} (h : p := by
  repeat' (first | (with_reducible refine condLt (fun h h' => ?_) (fun h h' => ?_)) | (with_reducible refine condLe (fun h h' => ?_) (fun h h' => ?_)) | (with_reducible refine dop_val ?_) | (with_reducible refine YsLt (fun h h' => ?_) (fun h h' => ?_)) | (with_reducible refine YsLe (fun h h' => ?_) (fun h h' => ?_)) | (with_reducible refine condP (fun h => ?_) (fun h => ?_)) | (with_reducible refine condN (fun h => ?_) (fun h => ?_)) | (with_reducible refine condB (fun h => ?_) (fun h => ?_)) | (with_reducible refine condR (fun h => ?_) (fun h => ?_)) | (with_reducible refine YsB (fun h => ?_) (fun h => ?_)) | (with_reducible refine YsC (fun h => ?_) (fun h => ?_)) | (with_reducible refine Ys_ite (fun h => ?_) (fun h => ?_)) | (intro h) | (with_reducible refine draw_look (by kernel_rfl) (by kernel_rfl) ?_) | (simp (maxDischargeDepth := 9) only [go_sem, Nat.reduceMul, Nat.reduceAdd, Nat.reduceLeDiff, Int.reduceSub, Int.reduceNeg, Int.reduceLT, Int.reduceLE, Int.reduceEq, *]) | (exfalso; omega))) : p := h
theorem lsame_ans (ext : CallF) (k : Nat) (v u : IV) (p q : Nat) (hk : maxLen + (2) ≤ k) (hv : Ok v) : ans (tab.run ext k) 31 [.iv p 46 v, .iv q 46 u] 0 = some ([.one (.at (.bool (SM v u)))], [4]) := by
  obtain ⟨k, rfl⟩ : ∃ k', k = k' + 1 := ⟨k - 1, by omega⟩
  have hk1 : maxLen < k := by omega
  have hk0 : 0 < k := by omega
  refine fn_run (fx := fx31) (m := 24) 26 rfl rfl rfl rfl (fun st hn hg hr => ?_)
  have g0 : st.get (.tmp 0) = .v (.a (.iv p 46 v)) := hg 0 (of_decide_eq_true rfl)
  have g1 : st.get (.tmp 1) = .v (.a (.iv q 46 u)) := hg 1 (of_decide_eq_true rfl)
  clear hg hr
  rw [co31]
  simp only [Try.f31, Option.getD_some]
  unfold SM
  simp (maxDischargeDepth := 9) only [go_sem, Nat.reduceMul, Nat.reduceAdd, Nat.reduceLeDiff, Int.reduceSub, Int.reduceNeg, Int.reduceLT, Int.reduceLE, Int.reduceEq, *]
  refine condN (fun h => ?_) (fun heq => ?_)
  · simp (maxDischargeDepth := 9) only [go_sem, Nat.reduceMul, Nat.reduceAdd, Nat.reduceLeDiff, Int.reduceSub, Int.reduceNeg, Int.reduceLT, Int.reduceLE, Int.reduceEq, *]
  have heq2 : (asL u).length = (asL v).length := by simpa using Eq.symm heq
  clear heq
  simp (maxDischargeDepth := 9) only [go_sem, Nat.reduceMul, Nat.reduceAdd, Nat.reduceLeDiff, Int.reduceSub, Int.reduceNeg, Int.reduceLT, Int.reduceLE, Int.reduceEq, *]
  refine gen_st (fun s0 hg hr hn0 => ?_)
  have e0 := hg 0
  have e1 := hg 1
  have e5 := hg 5
  clear hg hr
  simp only [go_sem, *] at hn0 e0 e1 e5
  have hl := ok_len hv
  refine nr (runs_forN (asL v).length (fun (_ : Unit) i => if asI ((asL v).getD i .N) = asI ((asL u).getD i .N) then .next () else .ret false) () 26 (fun i a => [(0, s0.get (.tmp 0)), (1, s0.get (.tmp 1)), (5, .v (.a (.int .i64 i)))]) (fun i a => []) (fun i a => True) (by omega) ?_ (trivial) ?_ ?_ ?_ ?_)
  · simp (maxDischargeDepth := 9) only [go_sem, Nat.reduceMul, Nat.reduceAdd, Nat.reduceLeDiff, Int.reduceSub, Int.reduceNeg, Int.reduceLT, Int.reduceLE, Int.reduceEq, *]
  · intro i a; simp (maxDischargeDepth := 9) only [go_sem, Nat.reduceMul, Nat.reduceAdd, Nat.reduceLeDiff, Int.reduceSub, Int.reduceNeg, Int.reduceLT, Int.reduceLE, Int.reduceEq, *]
  · intro i a; simp (maxDischargeDepth := 9) only [go_sem, Nat.reduceMul, Nat.reduceAdd, Nat.reduceLeDiff, Int.reduceSub, Int.reduceNeg, Int.reduceLT, Int.reduceLE, Int.reduceEq, *]
  · intro i a s hi hI hS
    clear hn0 e5
    simp only [go_sem] at hS
    obtain ⟨f0, f1, f5, hn⟩ := hS
    have hw := wrap_succ hi (ok_len hv)
    refine rn ?_
    simp (maxDischargeDepth := 9) only [go_sem, Nat.reduceMul, Nat.reduceAdd, Nat.reduceLeDiff, Int.reduceSub, Int.reduceNeg, Int.reduceLT, Int.reduceLE, Int.reduceEq, *]
    all_goals exact AU_lsame
  · intro a s hI hf hS
    clear hn0 e5
    simp only [go_sem] at hS
    obtain ⟨f0, f1, f5, hn⟩ := hS
    try simp only [go_sem] at hf
    refine rn ?_
    simp (maxDischargeDepth := 9) only [go_sem, Nat.reduceMul, Nat.reduceAdd, Nat.reduceLeDiff, Int.reduceSub, Int.reduceNeg, Int.reduceLT, Int.reduceLE, Int.reduceEq, *]
    all_goals exact AU_lsame
theorem AU_large {p : Prop} (h : p := by
  repeat' (first | (with_reducible refine condLt (fun h h' => ?_) (fun h h' => ?_)) | (with_reducible refine condLe (fun h h' => ?_) (fun h h' => ?_)) | (with_reducible refine dop_val ?_) | (with_reducible refine YsLt (fun h h' => ?_) (fun h h' => ?_)) | (with_reducible refine YsLe (fun h h' => ?_) (fun h h' => ?_)) | (with_reducible refine condP (fun h => ?_) (fun h => ?_)) | (with_reducible refine condN (fun h => ?_) (fun h => ?_)) | (with_reducible refine condB (fun h => ?_) (fun h => ?_)) | (with_reducible refine condR (fun h => ?_) (fun h => ?_)) | (with_reducible refine YsB (fun h => ?_) (fun h => ?_)) | (with_reducible refine YsC (fun h => ?_) (fun h => ?_)) | (with_reducible refine Ys_ite (fun h => ?_) (fun h => ?_)) | (intro h) | (with_reducible refine draw_look (by kernel_rfl) (by kernel_rfl) ?_) | (simp (maxDischargeDepth := 9) only [go_sem, Nat.reduceMul, Nat.reduceAdd, Nat.reduceLeDiff, Int.reduceSub, Int.reduceNeg, Int.reduceLT, Int.reduceLE, Int.reduceEq, *]) | (exfalso; omega))) : p := h
theorem large_ans (ext : CallF) (k : Nat) (b : IV) (p : Nat) (hk : maxLen + (2) ≤ k) (hb : Ok b) : ans (tab.run ext k) 11 [.iv p 29 b] 1 = some ([.one (.at (.bool (LG b)))], [4]) := by
  obtain ⟨k, rfl⟩ : ∃ k', k = k' + 1 := ⟨k - 1, by omega⟩
  have hk1 : maxLen < k := by omega
  have hk0 : 0 < k := by omega
  refine fn_run (fx := fx11) (m := 38) 39 rfl rfl rfl rfl (fun st hn hg hr => ?_)
  have g0 : st.get (.tmp 0) = .v (.a (.iv p 29 b)) := hg 0 (of_decide_eq_true rfl)
  have r0 := hr 0
  clear hg hr
  rw [co11]
  simp only [Try.f11, Option.getD_some]
  unfold LG
  simp (maxDischargeDepth := 9) only [go_sem, Nat.reduceMul, Nat.reduceAdd, Nat.reduceLeDiff, Int.reduceSub, Int.reduceNeg, Int.reduceLT, Int.reduceLE, Int.reduceEq, *]
  repeat' (first | (with_reducible refine condLt (fun h h' => ?_) (fun h h' => ?_)) | (with_reducible refine condLe (fun h h' => ?_) (fun h h' => ?_)) | (with_reducible refine dop_val ?_) | (with_reducible refine YsLt (fun h h' => ?_) (fun h h' => ?_)) | (with_reducible refine YsLe (fun h h' => ?_) (fun h h' => ?_)) | (with_reducible refine condP (fun h => ?_) (fun h => ?_)) | (with_reducible refine condN (fun h => ?_) (fun h => ?_)) | (with_reducible refine condB (fun h => ?_) (fun h => ?_)) | (with_reducible refine condR (fun h => ?_) (fun h => ?_)) | (with_reducible refine YsB (fun h => ?_) (fun h => ?_)) | (with_reducible refine YsC (fun h => ?_) (fun h => ?_)) | (with_reducible refine Ys_ite (fun h => ?_) (fun h => ?_)) | (intro h) | (with_reducible refine draw_look (by kernel_rfl) (by kernel_rfl) ?_) | (simp (maxDischargeDepth := 9) only [go_sem, Nat.reduceMul, Nat.reduceAdd, Nat.reduceLeDiff, Int.reduceSub, Int.reduceNeg, Int.reduceLT, Int.reduceLE, Int.reduceEq, *]) | (exfalso; omega))
  refine gen_st (fun s0 hg hr hn0 => ?_)
  have e1 := hg 1
  have e3 := hg 3
  have q0 := hr 0
  clear hg hr
  simp only [go_sem, *] at hn0 e1 e3 q0
  have hl := ok_len (ok_fld (j := 1) hb)
  refine nr (runs_for (asL (fld b 1)) (fun (_ : Unit) x => if (12 : Int) < ((asL (fld x 1)).length : Int) ∨ (40 : Int) < ((asL (fld x 2)).length : Int) then .ret true else .next ()) () 39 (fun i a => [(1, s0.get (.tmp 1)), (3, .v (.a (.int .i64 i)))]) (fun i a => [(0, s0.row 0)]) (fun i a => True) (by omega) ?_ (trivial) ?_ ?_ ?_ ?_)
  · simp (maxDischargeDepth := 9) only [go_sem, Nat.reduceMul, Nat.reduceAdd, Nat.reduceLeDiff, Int.reduceSub, Int.reduceNeg, Int.reduceLT, Int.reduceLE, Int.reduceEq, *]
  · intro i a; simp (maxDischargeDepth := 9) only [go_sem, Nat.reduceMul, Nat.reduceAdd, Nat.reduceLeDiff, Int.reduceSub, Int.reduceNeg, Int.reduceLT, Int.reduceLE, Int.reduceEq, *]
  · intro i a; simp (maxDischargeDepth := 9) only [go_sem, Nat.reduceMul, Nat.reduceAdd, Nat.reduceLeDiff, Int.reduceSub, Int.reduceNeg, Int.reduceLT, Int.reduceLE, Int.reduceEq, *]
  · intro i x a s hx hi hI hS
    clear hn0 e3
    simp only [go_sem] at hS
    obtain ⟨f1, f3, m0, hn⟩ := hS
    have hw := wrap_succ hi (ok_len (ok_fld hb))
    refine rn ?_
    simp (maxDischargeDepth := 9) only [go_sem, Nat.reduceMul, Nat.reduceAdd, Nat.reduceLeDiff, Int.reduceSub, Int.reduceNeg, Int.reduceLT, Int.reduceLE, Int.reduceEq, *]
    all_goals exact AU_large
  · intro a s hI hf hS
    clear hn0 e3
    simp only [go_sem] at hS
    obtain ⟨f1, f3, m0, hn⟩ := hS
    try simp only [go_sem] at hf
    refine rn ?_
    simp (maxDischargeDepth := 9) only [go_sem, Nat.reduceMul, Nat.reduceAdd, Nat.reduceLeDiff, Int.reduceSub, Int.reduceNeg, Int.reduceLT, Int.reduceLE, Int.reduceEq, *]
    all_goals exact AU_large
theorem AU_past {p : Prop} (h : p := by
  repeat' (first | (with_reducible refine condLt (fun h h' => ?_) (fun h h' => ?_)) | (with_reducible refine condLe (fun h h' => ?_) (fun h h' => ?_)) | (with_reducible refine dop_val ?_) | (with_reducible refine YsLt (fun h h' => ?_) (fun h h' => ?_)) | (with_reducible refine YsLe (fun h h' => ?_) (fun h h' => ?_)) | (with_reducible refine condP (fun h => ?_) (fun h => ?_)) | (with_reducible refine condN (fun h => ?_) (fun h => ?_)) | (with_reducible refine condB (fun h => ?_) (fun h => ?_)) | (with_reducible refine condR (fun h => ?_) (fun h => ?_)) | (with_reducible refine YsB (fun h => ?_) (fun h => ?_)) | (with_reducible refine YsC (fun h => ?_) (fun h => ?_)) | (with_reducible refine Ys_ite (fun h => ?_) (fun h => ?_)) | (intro h) | (with_reducible refine draw_look (by kernel_rfl) (by kernel_rfl) ?_) | (simp (maxDischargeDepth := 9) only [go_sem, Nat.reduceMul, Nat.reduceAdd, Nat.reduceLeDiff, Int.reduceSub, Int.reduceNeg, Int.reduceLT, Int.reduceLE, Int.reduceEq, *]) | (exfalso; omega))) : p := h
theorem past_ans (ext : CallF) (k : Nat) (b : IV) (e : Int) (p : Nat) (hk : maxLen + (2) ≤ k) (hb : Ok b) (hfd : FD b = true) (he : e < ((asL (fld b 1)).length : Int)) (hz : (asL (fld b 1)).length ≤ 1000000) : ans (tab.run ext k) 62 [.iv p 29 b, .int .i64 e] 3 = some ([.one (.own 2 4 (bl (asL (fld b 1)).length (hist b e)))], [51]) := by
  obtain ⟨k, rfl⟩ : ∃ k', k = k' + 1 := ⟨k - 1, by omega⟩
  have hk1 : maxLen < k := by omega
  have hk0 : 0 < k := by omega
  refine fn_run (fx := fx62) (m := 58) 60 rfl rfl rfl rfl (fun st hn hg hr => ?_)
  have g0 : st.get (.tmp 0) = .v (.a (.iv p 29 b)) := hg 0 (of_decide_eq_true rfl)
  have g1 : st.get (.tmp 1) = .v (.a (.int .i64 e)) := hg 1 (of_decide_eq_true rfl)
  have r0 := hr 0
  have r1 := hr 1
  have r2 := hr 2
  clear hg hr
  rw [co62]
  simp only [Try.f62, Option.getD_some]
  have hl1 := ok_len (ok_fld (j := 1) hb)
  simp (maxDischargeDepth := 9) only [go_sem, Nat.reduceMul, Nat.reduceAdd, Nat.reduceLeDiff, Int.reduceSub, Int.reduceNeg, Int.reduceLT, Int.reduceLE, Int.reduceEq, *]
  with_reducible refine condLt (fun h h' => ?_) (fun h h' => ?_)
  · rw [hist_neg h]
    simp (maxDischargeDepth := 9) only [go_sem, Nat.reduceMul, Nat.reduceAdd, Nat.reduceLeDiff, Int.reduceSub, Int.reduceNeg, Int.reduceLT, Int.reduceLE, Int.reduceEq, *]
  obtain ⟨m, rfl⟩ := Int.eq_ofNat_of_zero_le h'
  have hm : m < (asL (fld b 1)).length := by omega
  simp (maxDischargeDepth := 9) only [go_sem, Nat.reduceMul, Nat.reduceAdd, Nat.reduceLeDiff, Int.reduceSub, Int.reduceNeg, Int.reduceLT, Int.reduceLE, Int.reduceEq, *]
  refine gen_st (fun s0 hg hr hn0 => ?_)
  have e2 := hg 2
  have e4 := hg 4
  have e5 := hg 5
  have e6 := hg 6
  have q0 := hr 0
  have q1 := hr 1
  have q2 := hr 2
  clear hg hr
  simp only [go_sem, *] at hn0 e2 e4 e5 e6 q0 q1 q2
  refine nr (runs_forN (m + 1) (fun (S : Nat → Bool) i => Stp.next (ρ := Unit) (fun g => S g || (S (m - i) && decide (edge b (m - i) g)))) (fun g => decide (g = m)) 60 (fun i S => [(2, s0.get (.tmp 2)), (4, s0.get (.tmp 4)), (5, s0.get (.tmp 5)), (6, .v (.a (.int .i64 ((m : Int) - (i : Nat)))))]) (fun i S => [(0, s0.row 0), (1, s0.row 1), (2, some (.arr 2 4 (bl (asL (fld b 1)).length S)))]) (fun i S => True) (by omega) ?_ (trivial) ?_ ?_ ?_ ?_)
  · simp (maxDischargeDepth := 9) only [go_sem, Nat.reduceMul, Nat.reduceAdd, Nat.reduceLeDiff, Int.reduceSub, Int.reduceNeg, Int.reduceLT, Int.reduceLE, Int.reduceEq, *]
  · intro i a; simp (maxDischargeDepth := 9) only [go_sem, Nat.reduceMul, Nat.reduceAdd, Nat.reduceLeDiff, Int.reduceSub, Int.reduceNeg, Int.reduceLT, Int.reduceLE, Int.reduceEq, *]
  · intro i a; simp (maxDischargeDepth := 9) only [go_sem, Nat.reduceMul, Nat.reduceAdd, Nat.reduceLeDiff, Int.reduceSub, Int.reduceNeg, Int.reduceLT, Int.reduceLE, Int.reduceEq, *]
  · intro i S s hi hI hS
    clear hn0 e6 q2
    simp only [go_sem] at hS
    obtain ⟨f2, f4, f5, f6, m0, m1, m2, hn⟩ := hS
    have h0i : (0 : Int) ≤ (m : Int) - (i : Nat) := by omega
    have hmi : ((m : Int) - (i : Nat)).toNat = m - i := by omega
    have hmi2 : m - i < (asL (fld b 1)).length := by omega
    have hw : IntKind.i64.wrap ((m : Int) - (i : Nat) - 1) = (m : Int) - ((i + 1 : Nat) : Int) := by
      rw [Go.IntWalk.i64_in _ (by omega)]; omega
    refine rn ?_
    simp (maxDischargeDepth := 9) only [go_sem, Nat.reduceMul, Nat.reduceAdd, Nat.reduceLeDiff, Int.reduceSub, Int.reduceNeg, Int.reduceLT, Int.reduceLE, Int.reduceEq, *]
    with_reducible refine condR (fun h => ?_) (fun h => ?_)
    · have h2 : S (m - i) = false := by simpa using h
      all_goals exact AU_past
    have h2 : S (m - i) = true := by simpa using h
    simp (maxDischargeDepth := 9) only [go_sem, Nat.reduceMul, Nat.reduceAdd, Nat.reduceLeDiff, Int.reduceSub, Int.reduceNeg, Int.reduceLT, Int.reduceLE, Int.reduceEq, *]
    refine gen_st (fun s0 hg hr hn0 => ?_)
    have e2 := hg 2
    have e4 := hg 4
    have e5 := hg 5
    have e6 := hg 6
    have e20 := hg 20
    have e21 := hg 21
    have e24 := hg 24
    have e25 := hg 25
    have e26 := hg 26
    have e27 := hg 27
    have e28 := hg 28
    have e7 := hg 7
    have q0 := hr 0
    have q1 := hr 1
    have q2 := hr 2
    clear hg hr
    simp only [go_sem, *] at hn0 e2 e4 e5 e6 e20 e21 e24 e25 e26 e27 e28 e7 q0 q1 q2
    have hl2 := ok_len (ok_fld (j := 1) (ok_getD (i := m - i) (ok_fld (j := 1) hb)))
    refine nr (runs_forN (asL (fld ((asL (fld b 1)).getD (m - i) .N) 1)).length (fun (S2 : Nat → Bool) k => Stp.next (ρ := Unit) (fun g => S2 g || (decide (0 ≤ asI (fld (el (asL (fld b 0)) (asI ((asL (fld ((asL (fld b 1)).getD (m - i) .N) 1)).getD k .N))) 1)) && decide (g = (asI (fld (el (asL (fld b 0)) (asI ((asL (fld ((asL (fld b 1)).getD (m - i) .N) 1)).getD k .N))) 1)).toNat)))) S 60 (fun k S2 => [(2, s0.get (.tmp 2)), (4, s0.get (.tmp 4)), (5, s0.get (.tmp 5)), (6, s0.get (.tmp 6)), (20, s0.get (.tmp 20)), (21, s0.get (.tmp 21)), (24, s0.get (.tmp 24)), (25, s0.get (.tmp 25)), (26, s0.get (.tmp 26)), (27, s0.get (.tmp 27)), (28, s0.get (.tmp 28)), (7, .v (.a (.int .i64 (k : Nat))))]) (fun k S2 => [(0, s0.row 0), (1, s0.row 1), (2, some (.arr 2 4 (bl (asL (fld b 1)).length S2)))]) (fun k S2 => True) (by omega) ?_ (trivial) ?_ ?_ ?_ ?_)
    · simp (maxDischargeDepth := 9) only [go_sem, Nat.reduceMul, Nat.reduceAdd, Nat.reduceLeDiff, Int.reduceSub, Int.reduceNeg, Int.reduceLT, Int.reduceLE, Int.reduceEq, *]
    · intro i a; simp (maxDischargeDepth := 9) only [go_sem, Nat.reduceMul, Nat.reduceAdd, Nat.reduceLeDiff, Int.reduceSub, Int.reduceNeg, Int.reduceLT, Int.reduceLE, Int.reduceEq, *]
    · intro i a; simp (maxDischargeDepth := 9) only [go_sem, Nat.reduceMul, Nat.reduceAdd, Nat.reduceLeDiff, Int.reduceSub, Int.reduceNeg, Int.reduceLT, Int.reduceLE, Int.reduceEq, *]
    · intro k S2 s hi hI hS
      clear hn0 e7 q2
      simp only [go_sem] at hS
      obtain ⟨f2, f4, f5, f6, f20, f21, f24, f25, f26, f27, f28, f7, m0, m1, m2, hn⟩ := hS
      have hw := wrap_succ hi (hl2)
      obtain ⟨hx0, hx1, hx2⟩ := FD_pre hfd (i := m - i) hmi2 (x := (asL (fld ((asL (fld b 1)).getD (m - i) .N) 1)).getD k .N) (memD hi)
      simp only [frm, nCo] at hx0 hx1 hx2
      have hx3 : (asI (fld (el (asL (fld b 0)) (asI ((asL (fld ((asL (fld b 1)).getD (m - i) .N) 1)).getD k .N))) 1)).toNat < (asL (fld b 1)).length := by omega
      refine rn ?_
      simp (maxDischargeDepth := 9) only [go_sem, Nat.reduceMul, Nat.reduceAdd, Nat.reduceLeDiff, Int.reduceSub, Int.reduceNeg, Int.reduceLT, Int.reduceLE, Int.reduceEq, *]
      all_goals exact AU_past
    · intro S2 s hI hf hS
      clear hn0 e7 q2
      simp only [go_sem] at hS
      obtain ⟨f2, f4, f5, f6, f20, f21, f24, f25, f26, f27, f28, f7, m0, m1, m2, hn⟩ := hS
      try simp only [go_sem] at hf
      have hS2 : S2 = fun g => S g || decide (edge b (m - i) g) := by rw [← hf, foldl_or]; funext g; congr 1; exact pre_edge (fun k => rfl) g
      subst hS2
      refine rn ?_
      simp (maxDischargeDepth := 9) only [go_sem, Nat.reduceMul, Nat.reduceAdd, Nat.reduceLeDiff, Int.reduceSub, Int.reduceNeg, Int.reduceLT, Int.reduceLE, Int.reduceEq, *]
      all_goals exact AU_past
  · intro S s hI hf hS
    clear hn0 e6 q2
    simp only [go_sem] at hS
    obtain ⟨f2, f4, f5, f6, m0, m1, m2, hn⟩ := hS
    try simp only [go_sem] at hf
    have hS : S = hist b (m : Int) := by rw [← hf, ← List.range_succ, past_fold hfd hm]; funext g; simp [hist]
    subst hS
    have hneg : ¬ (0 : Int) ≤ (m : Int) - ((m + 1 : Nat) : Int) := by omega
    refine rn ?_
    simp (maxDischargeDepth := 9) only [go_sem, Nat.reduceMul, Nat.reduceAdd, Nat.reduceLeDiff, Int.reduceSub, Int.reduceNeg, Int.reduceLT, Int.reduceLE, Int.reduceEq, *]
    all_goals exact AU_past
end Go.Proofs.Ytficdonjodadlaa
end
